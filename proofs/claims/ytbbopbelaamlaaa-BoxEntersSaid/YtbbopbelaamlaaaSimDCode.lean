/- The direct evaluator over code and functions, and the contract that it proves. -/
import Derived.Test.YtbbopbelaamlaaaSimAnyT
namespace Go.Sim

section defs
variable (P : Program) (ex : Bool) (M : EnvM) (lits fk : List Tmp)
def evLoopM (body : St → Option Ch) : Nat → St → Option Ch
  | 0, _ => none
  | n + 1, s => match body s with | some c => bindN s c (evLoopM body n) | none => none
def isLit : Operand → Bool
  | .tmp t => lits.any (Nat.beq t)
  | _ => true
def isFork : Operand → Bool
  | .tmp t => fk.any (Nat.beq t)
  | _ => false
def evCodeM (N : Nat) : Code → St → Option Ch
  | .skip, s => some (.last .normal s)
  | .label _, s => some (.last .normal s)
  | .region _ ops draw, s =>
    match cond draw
      (match evRegS P ex M ops.toList s with
        | some s' => some s'
        | none => cond (drawOk ops.toList (cloA ops.toList []) && P.follows .mixedOrders)
          (evOpsM P ex M ops.toList ops.toList.length [] (zipF ops.toList (fullsA (cloA ops.toList []) ops.toList.length ops.toList.length 0)) s) none)
      (evOpsM P ex M ops.toList ops.toList.length [] (zipF ops.toList (List.replicate ops.toList.length true)) s) with
    | some s' => some (.last .normal s')
    | none => none
  | .seq a b, s => match evCodeM N a s with | some c => bindN s c (evCodeM N b) | none => none
  | .cond c x y, s => match opA s.tm c with
    | some (.bool b) => cond (isLit lits c)
      (cond b (evCodeM N x s) (evCodeM N y s))
      (cond (isFork fk c) appO (fun b => mrgC b s) b (evCodeM N x ⟨s.ob, litO s.tm c true, s.tv, s.H, s.hv⟩) (evCodeM N y ⟨s.ob, litO s.tm c false, s.tv, s.H, s.hv⟩))
    | _ => none
  | .block id body, s => match evCodeM N body s with | some c => some (unexit s id c) | none => none
  | .loop body, s => evLoopM (evCodeM N body) N s
  | .exit id, s => some (.last (.exit id) s)
  | .scope body, s => evCodeM N body s
  | .ret, s => some (.last .ret s)
  | .rangeFunc .., _ => none
  | .goto _, _ => none
  | .refuse _, _ => none
end defs

section sound
variable {P : Program} {ex : Bool}

theorem Ends.le {tm : List AV} {w0 : World} {H0 H H' : Heap} {μ0 : Nat → Option Nat} {a : Act} {w : World} (h : Ends ex tm w0 H0 μ0 H a w) (g : HLe H H') : Ends ex tm w0 H0 μ0 H' a w := by
  obtain ⟨μ, h1, h2, h3, h4⟩ := h
  refine ⟨μ, h1, h2, h3.more g fun i b c hb hc => ?_, fun i hi => h4 i (Nat.le_trans g.length hi)⟩
  have hi := h4.lt hc
  have := g i H[i] (List.getElem?_eq_getElem hi)
  rw [hb] at this; cases this
  exact List.getElem?_eq_getElem hi
theorem CodeSim.le {c : Code} {tm tm' : List AV} {H H1 H2 : Heap} {e : Exit} (h : CodeSim P ex c tm H e tm' H1) (g : HLe H1 H2) : CodeSim P ex c tm H e tm' H2 := by
  intro w0 H0 μ0 a w hd hE
  refine wp_mono (h w0 H0 μ0 a w hd hE) ?_
  rintro e' a' w' ⟨rfl, hE'⟩
  exact ⟨rfl, hE'.le g⟩
theorem CodeSim.seq {x y : Code} {tm tm1 tm2 : List AV} {H H1 H2 : Heap} {e : Exit} (h : CodeSim P ex x tm H .normal tm1 H1) (g : CodeSim P ex y tm1 H1 e tm2 H2) : CodeSim P ex (.seq x y) tm H e tm2 H2 := by
  intro w0 H0 μ0 a w hd hE
  refine wp_seq (wp_mono (h w0 H0 μ0 a w hd hE) ?_)
  rintro e' a' w' ⟨rfl, hE'⟩
  exact g w0 H0 μ0 a' w' hd hE'
theorem CodeSim.seq_out {x y : Code} {tm tm1 : List AV} {H H1 : Heap} {e : Exit} (h : CodeSim P ex x tm H e tm1 H1) (hn : e ≠ .normal) : CodeSim P ex (.seq x y) tm H e tm1 H1 := by
  intro w0 H0 μ0 a w hd hE
  refine wp_seq (wp_mono (h w0 H0 μ0 a w hd hE) ?_)
  rintro e' a' w' ⟨rfl, hE'⟩
  cases e' with
  | normal => exact absurd rfl hn
  | _ => exact ⟨rfl, hE'⟩
theorem CodeSim.block {id : Nat} {body : Code} {tm tm1 : List AV} {H H1 : Heap} {e : Exit} (h : CodeSim P ex body tm H e tm1 H1) (hg : ∀ l, e ≠ .goto l) : CodeSim P ex (.block id body) tm H (unEx id e) tm1 H1 := by
  intro w0 H0 μ0 a w hd hE
  refine wp_block (wp_mono (h w0 H0 μ0 a w hd hE) ?_)
  rintro e' a' w' ⟨rfl, hE'⟩
  cases e' with
  | exit id' =>
    simp only [unEx]
    cases hb : Nat.beq id' id with
    | true =>
      have hid := Nat.eq_of_beq_eq_true hb
      simp only [Exit.inBlock, hid, if_true]
      exact ⟨rfl, hE'⟩
    | false =>
      have hid : id' ≠ id := by rintro rfl; rw [Nat.beq_refl] at hb; cases hb
      simp only [Exit.inBlock, hid, if_false]
      exact ⟨rfl, hE'⟩
  | goto l => exact absurd rfl (hg l)
  | _ => exact ⟨rfl, hE'⟩
theorem CodeSim.scope {body : Code} {tm tm1 : List AV} {H H1 : Heap} {e : Exit} (h : CodeSim P ex body tm H e tm1 H1) (hg : ∀ l, e ≠ .goto l) : CodeSim P ex (.scope body) tm H e tm1 H1 := by
  intro w0 H0 μ0 a w hd hE
  refine wp_scope_straight (wp_mono (h w0 H0 μ0 a w hd hE) ?_)
  rintro e' a' w' ⟨rfl, hE'⟩
  cases e' with
  | goto l => exact absurd rfl (hg l)
  | _ => exact ⟨rfl, hE'⟩
theorem CodeSim.cond {c : Operand} {b : Bool} {x y : Code} {tm tm1 : List AV} {H H1 : Heap} {e : Exit} (hb : opA tm c = some (.bool b)) (h : CodeSim P ex (cond b x y) tm H e tm1 H1) : CodeSim P ex (.cond c x y) tm H e tm1 H1 := by
  intro w0 H0 μ0 a w hd hE
  have hev : a.eval c = .bool b := by
    obtain ⟨μ, ht, _⟩ := hE
    have := opA_rel ht c _ hb
    simpa only [VRel] using this
  cases b with
  | true => exact wp_cond_true hev (h w0 H0 μ0 a w hd hE)
  | false => exact wp_cond_false hev (h w0 H0 μ0 a w hd hE)
/-- How a loop ends, from the head of a round on. -/
def LoopSim (P : Program) (ex : Bool) (c : Code) (tm : List AV) (H : Heap) (e : Exit) (tm' : List AV) (H' : Heap) : Prop :=
  ∀ (w0 : World) (H0 : Heap) (μ0 : Nat → Option Nat) (a : Act) (w : World), Dom μ0 H0 → Ends ex tm w0 H0 μ0 H a w → ∀ (b : Frame) (it : List Item) (cs : List Frame),
    ∃ a' w', Ends ex tm' w0 H0 μ0 H' a' w' ∧ Arrives P (lone (b.at a (.code c :: .inLoop c :: it)) cs w) b it cs e a' w'
theorem LoopSim.step {c : Code} {tm tm1 tm2 : List AV} {H H1 H2 : Heap} {e : Exit} (h : CodeSim P ex c tm H .normal tm1 H1) (g : LoopSim P ex c tm1 H1 e tm2 H2) : LoopSim P ex c tm H e tm2 H2 := by
  intro w0 H0 μ0 a w hd hE b it cs
  obtain ⟨e', a', w', ⟨rfl, hE'⟩, harr⟩ := h w0 H0 μ0 a w hd hE b (.inLoop c :: it) cs
  obtain ⟨a2, w2, hE2, harr2⟩ := g w0 H0 μ0 a' w' hd hE' b it cs
  exact ⟨a2, w2, hE2, .of_steps (Steps.trans harr (.one step_inLoop)) harr2⟩
theorem LoopSim.out {c : Code} {tm tm1 : List AV} {H H1 : Heap} {e : Exit} (h : CodeSim P ex c tm H e tm1 H1) (hn : e ≠ .normal) : LoopSim P ex c tm H e tm1 H1 := by
  intro w0 H0 μ0 a w hd hE b it cs
  obtain ⟨e', a', w', ⟨rfl, hE'⟩, harr⟩ := h w0 H0 μ0 a w hd hE b (.inLoop c :: it) cs
  exact ⟨a', w', hE', .pass (x := .inLoop c) rfl (fun _ _ => .inl hn) harr⟩
theorem LoopSim.le {c : Code} {tm tm' : List AV} {H H1 H2 : Heap} {e : Exit} (h : LoopSim P ex c tm H e tm' H1) (g : HLe H1 H2) : LoopSim P ex c tm H e tm' H2 := by
  intro w0 H0 μ0 a w hd hE b it cs
  obtain ⟨a', w', hE', harr⟩ := h w0 H0 μ0 a w hd hE b it cs
  exact ⟨a', w', hE'.le g, harr⟩
theorem CodeSim.loop {c : Code} {tm tm1 : List AV} {H H1 : Heap} {e : Exit} (h : LoopSim P ex c tm H e tm1 H1) : CodeSim P ex (.loop c) tm H e tm1 H1 := by
  intro w0 H0 μ0 a w hd hE b it cs
  obtain ⟨a', w', hE', harr⟩ := h w0 H0 μ0 a w hd hE b it cs
  exact ⟨e, a', w', ⟨rfl, hE'⟩, .of_steps (.one step_loop) harr⟩

/-- What the direct evaluation of code says: of the state that its truths choose. -/
structure CodeSpec (P : Program) (ex : Bool) (c : Code) (s : St) (q : Exit × St) : Prop where
  inv : Inv s q.2
  run : q.2.ob.ok = true → s.ob.ok = true ∧ (∀ l, q.1 ≠ .goto l) ∧ CodeSim P ex c s.tm s.H q.1 q.2.tm q.2.H
structure LoopSpec (P : Program) (ex : Bool) (c : Code) (s : St) (q : Exit × St) : Prop where
  inv : Inv s q.2
  run : q.2.ob.ok = true → s.ob.ok = true ∧ (∀ l, q.1 ≠ .goto l) ∧ LoopSim P ex c s.tm s.H q.1 q.2.tm q.2.H
theorem CodeSpec.sel {c : Code} {s : St} {p q : Exit × St} (h : CodeSpec P ex c s p) (g : Sel s p q) : CodeSpec P ex c s q := by
  refine ⟨g.inv, fun hok => ?_⟩
  obtain ⟨h1, h2, h3⟩ := h.run (g.le.ob hok)
  rw [g.e, g.le.tm]
  exact ⟨h1, h2, h3.le g.le.h⟩
theorem LoopSpec.sel {c : Code} {s : St} {p q : Exit × St} (h : LoopSpec P ex c s p) (g : Sel s p q) : LoopSpec P ex c s q := by
  refine ⟨g.inv, fun hok => ?_⟩
  obtain ⟨h1, h2, h3⟩ := h.run (g.le.ob hok)
  rw [g.e, g.le.tm]
  exact ⟨h1, h2, h3.le g.le.h⟩
theorem loopM_spec {body : St → Option Ch} {c : Code} (hb : ∀ s ch, body s = some ch → CodeSpec P ex c s (sel ch)) : ∀ (n : Nat) (s : St) (ch : Ch), evLoopM body n s = some ch → LoopSpec P ex c s (sel ch)
  | 0, s, ch, h => by simp [evLoopM] at h
  | n + 1, s, ch, h => by
    simp only [evLoopM] at h
    cases hc : body s with
    | none => rw [hc] at h; cases h
    | some c1 =>
      rw [hc] at h
      simp only at h
      have h1 := hb s c1 hc
      have ih := loopM_spec hb n
      rcases bindN_sel s (evLoopM body n) (fun s c h => (ih s c h).inv) c1 ch h1.inv h with ⟨hn, c2, h2, h3⟩ | ⟨hn, h2⟩
      · have h4 := ih _ _ h2
        refine LoopSpec.sel ⟨h1.inv.trans h4.inv, fun hok => ?_⟩ h3
        obtain ⟨q1, q2, q3⟩ := h4.run hok
        obtain ⟨p1, p2, p3⟩ := h1.run q1
        rw [hn] at p3
        exact ⟨p1, q2, .step p3 q3⟩
      · refine LoopSpec.sel ⟨h1.inv, fun hok => ?_⟩ h2
        obtain ⟨p1, p2, p3⟩ := h1.run hok
        exact ⟨p1, p2, .out p3 hn⟩
variable {M : EnvM} {lits fk : List Tmp}
theorem evCodeM_spec (hM : M.Ok P ex) (N : Nat) : ∀ (c : Code) (s : St) (ch : Ch), evCodeM P ex M lits fk N c s = some ch → CodeSpec P ex c s (sel ch)
  | .skip, s, ch, h => by
    simp only [evCodeM, Option.some.injEq] at h; subst h
    exact ⟨Inv.refl _, fun hok => ⟨hok, by simp [Sim.sel], fun w0 H0 μ0 a w hd hE => wp_skip ⟨rfl, hE⟩⟩⟩
  | .label _, s, ch, h => by
    simp only [evCodeM, Option.some.injEq] at h; subst h
    exact ⟨Inv.refl _, fun hok => ⟨hok, by simp [Sim.sel], fun w0 H0 μ0 a w hd hE => wp_label ⟨rfl, hE⟩⟩⟩
  | .exit _, s, ch, h => by
    simp only [evCodeM, Option.some.injEq] at h; subst h
    exact ⟨Inv.refl _, fun hok => ⟨hok, by simp [Sim.sel], fun w0 H0 μ0 a w hd hE => wp_exit ⟨rfl, hE⟩⟩⟩
  | .ret, s, ch, h => by
    simp only [evCodeM, Option.some.injEq] at h; subst h
    exact ⟨Inv.refl _, fun hok => ⟨hok, by simp [Sim.sel], fun w0 H0 μ0 a w hd hE => wp_ret ⟨rfl, hE⟩⟩⟩
  | .region id ops draw, s, ch, h => by
    simp only [evCodeM] at h
    split at h
    · rename_i s' hs
      cases h
      have fin : ∀ (fl : List Bool), OpsSpec P ex M ops.toList (zipF ops.toList fl) s s' → (∀ k, cond draw
          (cond (drawOk ops.toList (cloA ops.toList []) && P.follows .mixedOrders)
            (evOps P ex M.env ops.toList ops.toList (fullsA (cloA ops.toList []) ops.toList.length ops.toList.length 0) s.tm s.H k) none)
          (evOps P ex M.env ops.toList ops.toList (List.replicate ops.toList.length true) s.tm s.H k) = evOps P ex M.env ops.toList ops.toList fl s.tm s.H k) →
          CodeSpec P ex (.region id ops draw) s (Sim.sel (.last .normal s')) := by
        intro fl hspec hrun
        refine ⟨hspec.inv, fun hok => ?_⟩
        obtain ⟨p1, H', p2, p3, p4⟩ := hspec.run hok
        refine ⟨p1, by simp [Sim.sel], ?_⟩
        have h4 := p4 (fun tm H => some (.tup tm, H))
        rw [zipF_fst, ← evOps_zip] at h4
        obtain ⟨tm', H'', hk, hS⟩ := region_sim hM.env (id := id) ((hrun _).trans h4)
        simp only [Option.some.injEq, Prod.mk.injEq, AV.tup.injEq] at hk
        obtain ⟨rfl, rfl⟩ := hk
        exact hS.le p3
      cases draw with
      | false => rw [cond_false] at hs; exact fin _ (evOpsM_spec hM _ _ _ _ _ _ hs) fun _ => rfl
      | true =>
        rw [cond_true] at hs
        split at hs
        · rename_i s2 hr
          cases hs
          obtain ⟨q1, q2⟩ := evRegS_spec hM (id := id) hr
          refine ⟨q1, fun hok => ?_⟩
          obtain ⟨r1, r2⟩ := q2 hok
          exact ⟨r1, by simp [Sim.sel], r2⟩
        · obtain ⟨h1, h2⟩ := cond_some hs rfl
          exact fin _ (evOpsM_spec hM _ _ _ _ _ _ h2) fun _ => by rw [cond_true, h1]; rfl
    · cases h
  | .seq a b, s, ch, h => by
    simp only [evCodeM] at h
    cases hc : evCodeM P ex M lits fk N a s with
    | none => rw [hc] at h; cases h
    | some c1 =>
      rw [hc] at h
      simp only at h
      have h1 := evCodeM_spec hM N a s c1 hc
      have ih := fun s c h => evCodeM_spec hM N b s c h
      rcases bindN_sel s (evCodeM P ex M lits fk N b) (fun s c h => (ih s c h).inv) c1 ch h1.inv h with ⟨hn, c2, h2, h3⟩ | ⟨hn, h2⟩
      · have h4 := ih _ _ h2
        refine CodeSpec.sel ⟨h1.inv.trans h4.inv, fun hok => ?_⟩ h3
        obtain ⟨q1, q2, q3⟩ := h4.run hok
        obtain ⟨p1, p2, p3⟩ := h1.run q1
        rw [hn] at p3
        exact ⟨p1, q2, .seq p3 q3⟩
      · refine CodeSpec.sel ⟨h1.inv, fun hok => ?_⟩ h2
        obtain ⟨p1, p2, p3⟩ := h1.run hok
        exact ⟨p1, p2, .seq_out p3 hn⟩
  | .cond c x y, s, ch, h => by
    simp only [evCodeM] at h
    split at h
    · rename_i b hb
      have fin : ∀ a, CodeSpec P ex (cond b x y) s (Sim.sel a) → CodeSpec P ex (.cond c x y) s (Sim.sel a) := fun a ha =>
        ⟨ha.inv, fun hok => by obtain ⟨p1, p2, p3⟩ := ha.run hok; exact ⟨p1, p2, .cond hb p3⟩⟩
      cases hl : isLit lits c with
      | true =>
        rw [hl, cond_true] at h
        refine fin ch ?_
        cases b with
        | true => exact evCodeM_spec hM N x s ch h
        | false => exact evCodeM_spec hM N y s ch h
      | false =>
        rw [hl, cond_false] at h
        have way : ∀ a, cond b (evCodeM P ex M lits fk N x ⟨s.ob, litO s.tm c true, s.tv, s.H, s.hv⟩) (evCodeM P ex M lits fk N y ⟨s.ob, litO s.tm c false, s.tv, s.H, s.hv⟩) = some a → CodeSpec P ex (cond b x y) s (Sim.sel a) := by
          intro a ha
          cases b with
          | true => rw [cond_true, litO_same hb] at ha; exact evCodeM_spec hM N x s a ha
          | false => rw [cond_false, litO_same hb] at ha; exact evCodeM_spec hM N y s a ha
        cases hf : isFork fk c with
        | true =>
          rw [hf] at h
          obtain ⟨a, ha, hs⟩ := appO_sel (h : appO b _ _ = some ch)
          rw [hs]
          exact fin a (way a ha)
        | false =>
          rw [hf] at h
          obtain ⟨a, ha, hs⟩ := mrgC_sel (h : mrgC b s _ _ = some ch) fun a ha => (way a ha).inv
          exact (fin a (way a ha)).sel hs
    · cases h
  | .block id body, s, ch, h => by
    simp only [evCodeM] at h
    cases hc : evCodeM P ex M lits fk N body s with
    | none => rw [hc] at h; cases h
    | some c1 =>
      rw [hc] at h
      simp only [Option.some.injEq] at h
      subst h
      have h1 := evCodeM_spec hM N body s c1 hc
      refine CodeSpec.sel (p := (unEx id (Sim.sel c1).1, (Sim.sel c1).2)) ⟨h1.inv, fun hok => ?_⟩ (unexit_sel s id c1 h1.inv)
      obtain ⟨p1, p2, p3⟩ := h1.run hok
      refine ⟨p1, fun l hl => ?_, .block p3 p2⟩
      generalize hq : (Sim.sel c1).1 = e at *
      cases e with
      | exit i => simp only [unEx] at hl; cases hb : Nat.beq i id <;> rw [hb] at hl <;> cases hl
      | goto l' => exact p2 l' rfl
      | _ => cases hl
  | .loop body, s, ch, h => by
    simp only [evCodeM] at h
    have h1 := loopM_spec (fun s ch h => evCodeM_spec hM N body s ch h) N s ch h
    refine ⟨h1.inv, fun hok => ?_⟩
    obtain ⟨p1, p2, p3⟩ := h1.run hok
    exact ⟨p1, p2, .loop p3⟩
  | .scope body, s, ch, h => by
    simp only [evCodeM] at h
    have h1 := evCodeM_spec hM N body s ch h
    refine ⟨h1.inv, fun hok => ?_⟩
    obtain ⟨p1, p2, p3⟩ := h1.run hok
    exact ⟨p1, p2, .scope p3 p2⟩
  | .rangeFunc .., s, ch, h => by simp [evCodeM] at h
  | .goto _, s, ch, h => by simp [evCodeM] at h
  | .refuse _, s, ch, h => by simp [evCodeM] at h
end sound

section fn
variable (P : Program) (ex : Bool) (M : EnvM) (lits fk : List Tmp)
def resV (tm : List AV) (H : Heap) (rs : List ResultVar) : Option AV :=
  match resA P tm H rs with
  | some [v] => some v
  | some l => some (.tup l)
  | none => none
def finE (fn : Func) (e : Exit) (s : St) : RM :=
  match e with
  | .normal => match resV P s.tm s.H fn.results.toList with | some v => some (s.ob, v, s.H, s.hv) | none => none
  | .ret => match resV P s.tm s.H fn.results.toList with | some v => some (s.ob, v, s.H, s.hv) | none => none
  | _ => none
def mrgR (g : Bool) (H : Heap) : RM → RM → RM
  | some (o1, v1, H1, d1), some (o2, v2, H2, d2) => some (Ob.merge g o1 o2, mergeAV g v1 v2, mergeHp g H1 H2 H d1 d2 [], maxH d1 d2)
  | none, y => cond g none y
  | x, none => cond g x none
def finC (fn : Func) (H : Heap) : Ch → RM
  | .last e s => finE P fn e s
  | .more e g s r => mrgR g H (finE P fn e s) (finC fn H r)
def evFnM (N : Nat) (fn : Func) (args : List AV) (H : Heap) : RM :=
  match fn.body with
  | some c => match evCodeM P ex M lits fk N c ⟨.tt, args ++ List.replicate (fn.ntmps - args.length) (.tup []), [], H, []⟩ with
    | some ch => finC P fn H ch
    | none => none
  | none => none
end fn

section fnEqs
variable {P : Program} {ex : Bool} {M : EnvM} {lits fk : List Tmp}
/-- One result stands for the other. -/
def RLe (H : Heap) (x y : RM) : Prop := ∀ o v H' d, y = some (o, v, H', d) → HInv H [] H' d ∧ ∃ o1 H1 d1, x = some (o1, v, H1, d1) ∧ (o.ok = true → o1.ok = true) ∧ HLe H1 H'
theorem rm_inv {H H1 H2 : Heap} {d1 d2 : HV} (h : HInv H [] H1 d1) (g : HLe H1 H2) (hd : ∀ i k, hget d1 i k ≤ hget d2 i k) : HInv H [] H2 d2 := by
  refine ⟨Nat.le_trans h.len g.length, fun i k => Nat.le_trans (h.le i k) (hd i k), fun i a c ha hc => ?_⟩
  have hi : i < H1.length := Nat.lt_of_lt_of_le (List.getElem?_eq_some_iff.1 ha).1 h.len
  have h3 := g i H1[i] (List.getElem?_eq_getElem hi)
  rw [hc] at h3; cases h3
  obtain ⟨p1, p2, p3, p4⟩ := h.same i a H1[i] ha (List.getElem?_eq_getElem hi)
  refine ⟨p1, p2, p3, fun k hk => p4 k ?_⟩
  have h4 := h.le i k
  have h5 := hd i k
  omega
theorem mrgR_le {g : Bool} {H : Heap} {x y : RM} (h : ∀ o v H' d, cond g x y = some (o, v, H', d) → HInv H [] H' d) : RLe H (cond g x y) (mrgR g H x y) := by
  intro o v H' d e
  have same : cond g x y = some (o, v, H', d) → HInv H [] H' d ∧ ∃ o1 H1 d1, cond g x y = some (o1, v, H1, d1) ∧ (o.ok = true → o1.ok = true) ∧ HLe H1 H' := fun e => ⟨h _ _ _ _ e, o, H', d, e, id, HLe.refl _⟩
  cases x with
  | none => exact same e
  | some p => cases y with
    | none => exact same e
    | some q =>
      obtain ⟨o1, v1, H1, d1⟩ := p
      obtain ⟨o2, v2, H2, d2⟩ := q
      have e' : some (Ob.merge g o1 o2, mergeAV g v1 v2, mergeHp g H1 H2 H d1 d2 [], maxH d1 d2) = some (o, v, H', d) := e
      cases e'
      rw [mergeAV_eq]
      cases g with
      | true =>
        have hi := h o1 v1 H1 d1 rfl
        have hl : HLe H1 (mergeHp true H1 H2 H d1 d2 []) := mergeHp_true _ _ _ _ _ _ fun i a c ha hc k hk => (hi.same i a c ha hc).2.2.2 k hk
        refine ⟨rm_inv hi hl fun i k => by rw [hget_maxH]; omega, o1, H1, d1, rfl, fun e => ?_, hl⟩
        rw [Ob.merge_ok] at e; exact e
      | false =>
        have hi := h o2 v2 H2 d2 rfl
        have hl : HLe H2 (mergeHp false H1 H2 H d1 d2 []) := mergeHp_false _ _ _ _ _ _ fun i a c ha hc k hk => (hi.same i a c ha hc).2.2.2 k hk
        refine ⟨rm_inv hi hl fun i k => by rw [hget_maxH]; omega, o2, H2, d2, rfl, fun e => ?_, hl⟩
        rw [Ob.merge_ok] at e; exact e
theorem finE_inv {fn : Func} {e : Exit} {s : St} {o : Ob} {v : AV} {H' : Heap} {d : HV} (h : finE P fn e s = some (o, v, H', d)) : o = s.ob ∧ H' = s.H ∧ d = s.hv ∧ resV P s.tm s.H fn.results.toList = some v ∧ (e = .normal ∨ e = .ret) := by
  have go : (match resV P s.tm s.H fn.results.toList with | some v => some (s.ob, v, s.H, s.hv) | none => none) = some (o, v, H', d) → o = s.ob ∧ H' = s.H ∧ d = s.hv ∧ resV P s.tm s.H fn.results.toList = some v := by
    intro h
    cases hr : resV P s.tm s.H fn.results.toList with
    | none => rw [hr] at h; cases h
    | some u => rw [hr] at h; cases h; exact ⟨rfl, rfl, rfl, rfl⟩
  cases e with
  | normal => obtain ⟨a, b, c, d⟩ := go h; exact ⟨a, b, c, d, .inl rfl⟩
  | ret => obtain ⟨a, b, c, d⟩ := go h; exact ⟨a, b, c, d, .inr rfl⟩
  | exit i => cases h
  | goto l => cases h
  | panic p => cases h
  | outgrown => cases h
theorem finC_le {fn : Func} {H : Heap} : ∀ (c : Ch), HInv H [] (sel c).2.H (sel c).2.hv → RLe H (finE P fn (sel c).1 (sel c).2) (finC P fn H c)
  | .last e s, h => fun o v H' d e' => by
    obtain ⟨h1, h2, h3, h4, h5⟩ := finE_inv e'
    subst h1 h2 h3
    exact ⟨h, _, _, _, e', id, HLe.refl _⟩
  | .more e g s r, h => by
    have hx : ∀ o v H' d, cond g (finE P fn e s) (finC P fn H r) = some (o, v, H', d) → HInv H [] H' d := by
      intro o v H' d e'
      cases g with
      | true => obtain ⟨h1, h2, h3, h4, h5⟩ := finE_inv e'; subst h1 h2 h3; exact h
      | false => exact (finC_le r h o v H' d e').1
    intro o v H' d e'
    obtain ⟨h1, o1, H1, d1, h2, h3, h4⟩ := mrgR_le hx o v H' d e'
    refine ⟨h1, ?_⟩
    cases g with
    | true => exact ⟨o1, H1, d1, h2, h3, h4⟩
    | false =>
      obtain ⟨g1, o2, H2, d2, g2, g3, g4⟩ := finC_le r h o1 v H1 d1 h2
      exact ⟨o2, H2, d2, g2, fun e => g3 (h3 e), g4.trans h4⟩
theorem finA_eq {fn : Func} {tm : List AV} {H : Heap} {v : AV} (h : resV P tm H fn.results.toList = some v) (k : AV → Heap → Option Res) : finA P fn tm H k = k v H := by
  unfold resV at h
  unfold finA
  split at h
  · rename_i u hu; simp only [hu]; cases h; rfl
  · rename_i l hne hl
    simp only [hl]
    cases h
    match l, hne with
    | [], _ => rfl
    | [x], hne => exact absurd rfl (hne x)
    | _ :: _ :: _, _ => rfl
  · cases h
theorem Sim.le {f : FuncId} {args : List AV} {H H1 H2 : Heap} {v : AV} (h : Sim P ex f args H v H1) (g : HLe H1 H2) : Sim P ex f args H v H2 := by
  intro μ vs w hvs hH hd
  refine (h μ vs w hvs hH hd).mono ?_
  rintro e w' ⟨u, μ', rfl, h1, h2, h3⟩
  refine ⟨u, μ', rfl, h1, h2.more g fun i b c hb hc => ?_, fun i hi => h3 i (Nat.le_trans g.length hi)⟩
  have hi := h3.lt hc
  have := g i H1[i] (List.getElem?_eq_getElem hi)
  rw [hb] at this; cases this
  exact List.getElem?_eq_getElem hi
theorem evFnM_inv (hM : M.Ok P ex) {N : Nat} {fn : Func} {args : List AV} {H H' : Heap} {ob : Ob} {v : AV} {d : HV} (h : evFnM P ex M lits fk N fn args H = some (ob, v, H', d)) : HInv H [] H' d := by
  unfold evFnM at h
  split at h
  · rename_i c hc
    split at h
    · rename_i ch hch
      have h1 := (evCodeM_spec hM N c _ ch hch).inv
      exact (finC_le ch h1.h ob v H' d h).1
    · cases h
  · cases h
/-- THE CONTRACT OF A FUNCTION, out of its direct evaluation. -/
theorem evFnM_sim (hM : M.Ok P ex) {N : Nat} {f : FuncId} {fn : Func} (hf : P.funcs[f]? = some fn) {args : List AV} {H H' : Heap} {ob : Ob} {v : AV} {d : HV}
    (h : evFnM P ex M lits fk N fn args H = some (ob, v, H', d)) (hok : ob.ok = true) : Sim P ex f args H v H' := by
  unfold evFnM at h
  split at h
  · rename_i c hc
    split at h
    · rename_i ch hch
      have h1 := evCodeM_spec hM N c _ ch hch
      obtain ⟨_, o1, H1, d1, h2, h3, h4⟩ := finC_le ch h1.inv.h ob v H' d h
      obtain ⟨rfl, rfl, rfl, h5, h6⟩ := finE_inv h2
      obtain ⟨_, _, hS⟩ := h1.run (h3 hok)
      refine Sim.le ?_ h4
      obtain ⟨v', hv, hF⟩ := fin_sim (ex := ex) (k := fun v H => some (v, H)) (finA_eq h5 (fun v H => some (v, H)))
      simp only [Option.some.injEq, Prod.mk.injEq, and_true] at hv
      subst hv
      intro μ vs w hvs hH hd
      refine calls_of_wp hf hc ?_
      have hE : Ends ex (args ++ List.replicate (fn.ntmps - args.length) (.tup [])) w H μ H ⟨vs.toArray ++ Array.replicate (fn.ntmps - vs.toArray.size) undef, []⟩ w := by
        refine ⟨μ, ?_, rfl, Goes.refl hH, hd⟩
        have hsz : vs.toArray.size = args.length := by simp [hvs.length]
        rw [hsz]
        simp only [Array.toList_append, Array.toList_replicate]
        exact hvs.append (VRels.replicate VRel.undef _)
      refine wp_mono (hS w H μ _ w hd hE) ?_
      rintro e' a' w' ⟨rfl, hE'⟩
      obtain ⟨u, μ', h1, h2, h3, h4⟩ := hF w H μ a' w' hE'
      have hdef : a'.defers = [] := by obtain ⟨_, _, h5, _⟩ := hE'; exact h5
      rcases h6 with h6 | h6 <;> rw [h6]
      · exact ⟨hdef, u, h1, u, μ', rfl, h2, h3, h4⟩
      · exact ⟨hdef, u, h1, u, μ', rfl, h2, h3, h4⟩
    · cases h
  · cases h
end fnEqs
end Go.Sim
