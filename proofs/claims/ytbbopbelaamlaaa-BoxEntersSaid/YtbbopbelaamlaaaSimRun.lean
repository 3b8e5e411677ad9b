/- The evaluator over code and functions, and the contract that it proves. -/
import Derived.Scope
import Derived.Test.YtbbopbelaamlaaaSimAny
namespace Go.Sim

section defs
variable (P : Program) (ex : Bool) (Φ : Env)

def evLoop (body : List AV → Heap → (Exit → List AV → Heap → Option Res) → Option Res) : Nat → List AV → Heap → (Exit → List AV → Heap → Option Res) → Option Res
  | 0, _, _, _ => none
  | n + 1, tm, H, k => body tm H (fun e tm' H' => match e with
    | .normal => evLoop body n tm' H' k
    | e => k e tm' H')
def litO (tm : List AV) : Operand → Bool → List AV
  | .tmp t, b => litT tm t b
  | _, _ => tm
def evCode (N : Nat) : Code → List AV → Heap → (Exit → List AV → Heap → Option Res) → Option Res
  | .skip, tm, H, k => k .normal tm H
  | .label _, tm, H, k => k .normal tm H
  | .region _ ops draw, tm, H, k =>
    cond draw
      (cond (drawOk ops.toList (cloA ops.toList []) && P.follows .mixedOrders)
        (evOps P ex Φ ops.toList ops.toList (fullsA (cloA ops.toList []) ops.toList.length ops.toList.length 0) tm H (fun tm' H' => k .normal tm' H')) none)
      (evOps P ex Φ ops.toList ops.toList (List.replicate ops.toList.length true) tm H (fun tm' H' => k .normal tm' H'))
  | .seq a b, tm, H, k => evCode N a tm H (fun e tm' H' => match e with
    | .normal => evCode N b tm' H' k
    | e => k e tm' H')
  | .cond c x y, tm, H, k => match opA tm c with
    | some (.bool b) => cond b (evCode N x (litO tm c true) H k) (evCode N y (litO tm c false) H k)
    | _ => none
  | .block id body, tm, H, k => evCode N body tm H (fun e tm' H' => match e with
    | .exit id' => cond (Nat.beq id' id) (k .normal tm' H') (k (.exit id') tm' H')
    | e => k e tm' H')
  | .loop body, tm, H, k => evLoop (evCode N body) N tm H k
  | .exit id, tm, H, k => k (.exit id) tm H
  | .scope body, tm, H, k => evCode N body tm H k
  | .ret, tm, H, k => k .ret tm H
  | .rangeFunc .., _, _, _ => none
  | .goto _, _, _, _ => none
  | .refuse _, _, _, _ => none
def resA (tm : List AV) (H : Heap) : List ResultVar → Option (List AV)
  | [] => some []
  | .tmp t :: r => match resA tm H r with | some l => some (tm.getD t (.tup []) :: l) | none => none
  | .cell x t :: r => match tm.getD x (.tup []) with
    | .ptr (some p) => match loadA P H t p.1 p.2, resA tm H r with | some v, some l => some (v :: l) | _, _ => none
    | _ => none
def finA (fn : Func) (tm : List AV) (H : Heap) (k : AV → Heap → Option Res) : Option Res :=
  match resA P tm H fn.results.toList with
  | some [v] => k v H
  | some l => k (.tup l) H
  | none => none
def evBody (N : Nat) (fn : Func) (c : Code) (args : List AV) (H : Heap) (k : AV → Heap → Option Res) : Option Res :=
  evCode P ex Φ N c (args ++ List.replicate (fn.ntmps - args.length) (.tup [])) H (fun e tm H' => match e with
    | .normal => finA P fn tm H' k
    | .ret => finA P fn tm H' k
    | _ => none)
def evFn (N : Nat) (fn : Func) (args : List AV) (H : Heap) (k : AV → Heap → Option Res) : Option Res :=
  match fn.body with
  | some c => evBody P ex Φ N fn c args H k
  | none => none
end defs

section sound
variable {P : Program} {ex : Bool} {Φ : Env}

theorem litO_same {tm : List AV} {c : Operand} {b : Bool} (h : opA tm c = some (.bool b)) : litO tm c b = tm := by
  cases c with
  | tmp t =>
    simp only [opA, Option.some.injEq] at h
    unfold litO
    refine litT_same ?_
    rw [List.getD_eq_getElem?_getD] at h
    cases hq : tm[t]? with
    | none => rw [hq] at h; cases h
    | some v => rw [hq] at h; exact congrArg some h
  | _ => rfl
/-- How a piece of code ends, whatever the world. -/
def CodeSim (P : Program) (ex : Bool) (c : Code) (tm : List AV) (H : Heap) (e : Exit) (tm' : List AV) (H' : Heap) : Prop :=
  ∀ (w0 : World) (H0 : Heap) (μ0 : Nat → Option Nat) (a : Act) (w : World), Dom μ0 H0 → Ends ex tm w0 H0 μ0 H a w → c.wp P (fun e' a' w' => e' = e ∧ Ends ex tm' w0 H0 μ0 H' a' w') a w

theorem Goes.drawn {w0 w : World} {H0 H : Heap} {μ0 μ : Nat → Option Nat} (a : Goes ex w0 H0 μ0 w H μ) (n : Nat) : Goes ex w0 H0 μ0 { w with drawn := w.drawn + n } H μ :=
  ⟨⟨a.rel.blk, a.rel.inj, a.rel.lt⟩, a.mu, a.fresh, a.ext, a.os, a.output, a.tape, a.size, a.keep⟩
theorem unl_replicate (n : Nat) : unl (Array.replicate n false) ≤ n := by
  unfold unl
  simp
theorem region_sim (hΦ : Φ.Ok P ex) {id : Nat} {ops : Array Oper} {draw : Bool} {tm : List AV} {H : Heap} {k : List AV → Heap → Option Res} {r : Res}
    (h : cond draw
      (cond (drawOk ops.toList (cloA ops.toList []) && P.follows .mixedOrders)
        (evOps P ex Φ ops.toList ops.toList (fullsA (cloA ops.toList []) ops.toList.length ops.toList.length 0) tm H k) none)
      (evOps P ex Φ ops.toList ops.toList (List.replicate ops.toList.length true) tm H k) = some r) :
    ∃ tm' H', k tm' H' = some r ∧ CodeSim P ex (.region id ops draw) tm H .normal tm' H' := by
  cases draw with
  | false =>
    obtain ⟨vals, tms, Hs, h1, h2, h3, h4⟩ := evOps_trace hΦ _ _ _ _ _ _ _ h
    refine ⟨_, _, h3, ?_⟩
    intro w0 H0 μ0 a w hd hE
    refine wp_region ?_
    have := seq_sound (ops := ops) h4 hd (Q := fun e' a' w' => e' = .normal ∧ Ends ex (tms ops.toList.length) w0 H0 μ0 (Hs ops.toList.length) a' w') (fun a' w' hE' => ⟨rfl, by simpa using hE'⟩) ops.size 0 a w (by simp) (by rw [h1, h2]; exact hE)
    rw [List.range_eq_range']
    exact this
  | true =>
    rw [cond_true] at h
    obtain ⟨hc, h⟩ := cond_some h rfl
    simp only [Bool.and_eq_true] at hc
    obtain ⟨hdr, hmix⟩ := hc
    obtain ⟨vals, tms, Hs, h1, h2, h3, h4⟩ := evOps_trace hΦ _ _ _ _ _ _ _ h
    refine ⟨_, _, h3, ?_⟩
    intro w0 H0 μ0 a w hd hE
    refine wp_region_any hmix ?_
    have hD := draws_of hdr
    obtain ⟨μ, ht, hdef, hg, hdm⟩ := hE
    rw [← h1] at ht
    rw [← h2] at hg hdm
    have hts : a.tmps.size = (tms 0).length := by rw [← ht.length]; simp
    refine any_sound (ops := ops) hD h4 hd (fun a' w' hE' => ⟨rfl, by simpa using hE'⟩) ops.size _ a _ 0 μ (unl_replicate _) ?_
    refine ⟨by simp, ?_, ⟨Nat.zero_le _, .inl rfl⟩, ?_, hts, ?_, ?_, hdef, hg.drawn 1, hdm, fun j hj => by omega⟩
    · intro j hj; unfold Listed at hj; rw [Array.getElem?_replicate] at hj; split at hj <;> simp at hj
    · intro j i hj; unfold Listed at hj; rw [Array.getElem?_replicate] at hj; split at hj <;> simp at hj
    · intro j o t v _ _ hj; unfold Listed at hj; rw [Array.getElem?_replicate] at hj; split at hj <;> simp at hj
    · intro t v _ hv
      have h5 := ht.getD t
      have h6 : a.tmps.toList[t]? = some v := by simpa using hv
      rw [List.getD_eq_getElem?_getD (l := a.tmps.toList), h6] at h5
      exact h5

theorem evLoop_sim {body : List AV → Heap → (Exit → List AV → Heap → Option Res) → Option Res} {c : Code}
    (hb : ∀ (tm : List AV) (H : Heap) (k : Exit → List AV → Heap → Option Res) (r : Res), body tm H k = some r → ∃ e tm' H', k e tm' H' = some r ∧ (∀ l, e ≠ .goto l) ∧ CodeSim P ex c tm H e tm' H') :
    ∀ (n : Nat) (tm : List AV) (H : Heap) (k : Exit → List AV → Heap → Option Res) (r : Res), evLoop body n tm H k = some r → ∃ e tm' H', k e tm' H' = some r ∧ (∀ l, e ≠ .goto l) ∧
      ∀ (w0 : World) (H0 : Heap) (μ0 : Nat → Option Nat) (a : Act) (w : World), Dom μ0 H0 → Ends ex tm w0 H0 μ0 H a w → ∀ (b : Frame) (it : List Item) (cs : List Frame),
        ∃ a' w', Ends ex tm' w0 H0 μ0 H' a' w' ∧ Arrives P (lone (b.at a (.code c :: .inLoop c :: it)) cs w) b it cs e a' w'
  | 0, tm, H, k, r, h => by simp [evLoop] at h
  | n + 1, tm, H, k, r, h => by
    simp only [evLoop] at h
    obtain ⟨e, tm1, H1, hk, hg, hS⟩ := hb _ _ _ _ h
    have other : e ≠ .normal → k e tm1 H1 = some r → _ := fun hne hk => (⟨e, tm1, H1, hk, hg, by
      intro w0 H0 μ0 a w hd hE b it cs
      obtain ⟨e', a', w', ⟨rfl, hE'⟩, harr⟩ := hS w0 H0 μ0 a w hd hE b (.inLoop c :: it) cs
      exact ⟨a', w', hE', .pass (x := .inLoop c) rfl (fun _ _ => .inl hne) harr⟩⟩ : ∃ e tm' H', k e tm' H' = some r ∧ (∀ l, e ≠ .goto l) ∧
      ∀ (w0 : World) (H0 : Heap) (μ0 : Nat → Option Nat) (a : Act) (w : World), Dom μ0 H0 → Ends ex tm w0 H0 μ0 H a w → ∀ (b : Frame) (it : List Item) (cs : List Frame),
        ∃ a' w', Ends ex tm' w0 H0 μ0 H' a' w' ∧ Arrives P (lone (b.at a (.code c :: .inLoop c :: it)) cs w) b it cs e a' w')
    cases e with
    | normal =>
      obtain ⟨e2, tm2, H2, hk2, hne, hL⟩ := evLoop_sim hb n tm1 H1 k r hk
      refine ⟨e2, tm2, H2, hk2, hne, ?_⟩
      intro w0 H0 μ0 a w hd hE b it cs
      obtain ⟨e', a', w', ⟨rfl, hE'⟩, harr⟩ := hS w0 H0 μ0 a w hd hE b (.inLoop c :: it) cs
      obtain ⟨a2, w2, hE2, harr2⟩ := hL w0 H0 μ0 a' w' hd hE' b it cs
      exact ⟨a2, w2, hE2, .of_steps (Steps.trans harr (.one step_inLoop)) harr2⟩
    | exit id => exact other (by simp) hk
    | goto l => exact other (by simp) hk
    | ret => exact other (by simp) hk
    | panic ch => exact other (by simp) hk
    | outgrown => exact other (by simp) hk

theorem evCode_sim (hΦ : Φ.Ok P ex) (N : Nat) : ∀ (c : Code) (tm : List AV) (H : Heap) (k : Exit → List AV → Heap → Option Res) (r : Res), evCode P ex Φ N c tm H k = some r →
    ∃ e tm' H', k e tm' H' = some r ∧ (∀ l, e ≠ .goto l) ∧ CodeSim P ex c tm H e tm' H'
  | .skip, tm, H, k, r, h => ⟨_, _, _, h, by simp, fun w0 H0 μ0 a w hd hE => wp_skip ⟨rfl, hE⟩⟩
  | .label l, tm, H, k, r, h => ⟨_, _, _, h, by simp, fun w0 H0 μ0 a w hd hE => wp_label ⟨rfl, hE⟩⟩
  | .region id ops draw, tm, H, k, r, h => by
    simp only [evCode] at h
    obtain ⟨tm', H', hk, hS⟩ := region_sim hΦ (id := id) (k := fun tm' H' => k .normal tm' H') h
    exact ⟨_, _, _, hk, by simp, hS⟩
  | .seq x y, tm, H, k, r, h => by
    simp only [evCode] at h
    obtain ⟨e, tm1, H1, hk, hg, hS⟩ := evCode_sim hΦ N x _ _ _ _ h
    have other : e ≠ .normal → k e tm1 H1 = some r → (∃ e tm' H', k e tm' H' = some r ∧ (∀ l, e ≠ .goto l) ∧ CodeSim P ex (.seq x y) tm H e tm' H') := fun hne hk => ⟨e, tm1, H1, hk, hg, by
      intro w0 H0 μ0 a w hd hE
      refine wp_seq (wp_mono (hS w0 H0 μ0 a w hd hE) ?_)
      rintro e' a' w' ⟨rfl, hE'⟩
      cases e' with
      | normal => exact absurd rfl hne
      | _ => exact ⟨rfl, hE'⟩⟩
    cases e with
    | normal =>
      obtain ⟨e2, tm2, H2, hk2, hg2, hS2⟩ := evCode_sim hΦ N y _ _ _ _ hk
      refine ⟨e2, tm2, H2, hk2, hg2, ?_⟩
      intro w0 H0 μ0 a w hd hE
      refine wp_seq (wp_mono (hS w0 H0 μ0 a w hd hE) ?_)
      rintro e' a' w' ⟨rfl, hE'⟩
      exact hS2 w0 H0 μ0 a' w' hd hE'
    | exit id => exact other (by simp) hk
    | goto l => exact absurd rfl (hg l)
    | ret => exact other (by simp) hk
    | panic ch => exact other (by simp) hk
    | outgrown => exact other (by simp) hk
  | .cond c x y, tm, H, k, r, h => by
    simp only [evCode] at h
    split at h
    · rename_i b hb
      have hev : ∀ (w0 : World) (H0 : Heap) (μ0 : Nat → Option Nat) (a : Act) (w : World), Ends ex tm w0 H0 μ0 H a w → a.eval c = .bool b := by
        rintro w0 H0 μ0 a w ⟨μ, ht, _⟩
        have := opA_rel ht c _ hb
        simpa only [VRel] using this
      cases b with
      | true =>
        rw [cond_true, litO_same hb] at h
        obtain ⟨e, tm', H', hk, hg, hS⟩ := evCode_sim hΦ N x _ _ _ _ h
        exact ⟨e, tm', H', hk, hg, fun w0 H0 μ0 a w hd hE => wp_cond_true (hev _ _ _ _ _ hE) (hS w0 H0 μ0 a w hd hE)⟩
      | false =>
        rw [cond_false, litO_same hb] at h
        obtain ⟨e, tm', H', hk, hg, hS⟩ := evCode_sim hΦ N y _ _ _ _ h
        exact ⟨e, tm', H', hk, hg, fun w0 H0 μ0 a w hd hE => wp_cond_false (hev _ _ _ _ _ hE) (hS w0 H0 μ0 a w hd hE)⟩
    · cases h
  | .block id body, tm, H, k, r, h => by
    simp only [evCode] at h
    obtain ⟨e, tm1, H1, hk, hg, hS⟩ := evCode_sim hΦ N body _ _ _ _ h
    have other : (∀ id', e ≠ .exit id') → k e tm1 H1 = some r → (∃ e tm' H', k e tm' H' = some r ∧ (∀ l, e ≠ .goto l) ∧ CodeSim P ex (.block id body) tm H e tm' H') := fun hne hk => ⟨e, tm1, H1, hk, hg, by
      intro w0 H0 μ0 a w hd hE
      refine wp_block (wp_mono (hS w0 H0 μ0 a w hd hE) ?_)
      rintro e' a' w' ⟨rfl, hE'⟩
      cases e' with
      | exit id' => exact absurd rfl (hne id')
      | _ => exact ⟨rfl, hE'⟩⟩
    cases e with
    | exit id' =>
      simp only at hk
      cases hb : Nat.beq id' id with
      | true =>
        rw [hb] at hk
        have hid := Nat.eq_of_beq_eq_true hb
        refine ⟨.normal, tm1, H1, hk, by simp, ?_⟩
        intro w0 H0 μ0 a w hd hE
        refine wp_block (wp_mono (hS w0 H0 μ0 a w hd hE) ?_)
        rintro e' a' w' ⟨rfl, hE'⟩
        simp only [Exit.inBlock, hid, if_true]
        exact ⟨trivial, hE'⟩
      | false =>
        rw [hb] at hk
        have hid : id' ≠ id := by rintro rfl; rw [Nat.beq_refl] at hb; cases hb
        refine ⟨.exit id', tm1, H1, hk, by simp, ?_⟩
        intro w0 H0 μ0 a w hd hE
        refine wp_block (wp_mono (hS w0 H0 μ0 a w hd hE) ?_)
        rintro e' a' w' ⟨rfl, hE'⟩
        simp only [Exit.inBlock, hid, if_false]
        exact ⟨trivial, hE'⟩
    | normal => exact other (by simp) hk
    | goto l => exact absurd rfl (hg l)
    | ret => exact other (by simp) hk
    | panic ch => exact other (by simp) hk
    | outgrown => exact other (by simp) hk
  | .loop body, tm, H, k, r, h => by
    simp only [evCode] at h
    obtain ⟨e, tm', H', hk, hg, hL⟩ := evLoop_sim (P := P) (ex := ex) (c := body) (fun tm H k r h => evCode_sim hΦ N body tm H k r h) N tm H k r h
    refine ⟨e, tm', H', hk, hg, ?_⟩
    intro w0 H0 μ0 a w hd hE b it cs
    obtain ⟨a', w', hE', harr⟩ := hL w0 H0 μ0 a w hd hE b it cs
    exact ⟨e, a', w', ⟨rfl, hE'⟩, .of_steps (.one step_loop) harr⟩
  | .exit id, tm, H, k, r, h => ⟨_, _, _, h, by simp, fun w0 H0 μ0 a w hd hE => wp_exit ⟨rfl, hE⟩⟩
  | .scope body, tm, H, k, r, h => by
    simp only [evCode] at h
    obtain ⟨e, tm1, H1, hk, hg, hS⟩ := evCode_sim hΦ N body _ _ _ _ h
    refine ⟨e, tm1, H1, hk, hg, ?_⟩
    intro w0 H0 μ0 a w hd hE
    refine wp_scope_straight (wp_mono (hS w0 H0 μ0 a w hd hE) ?_)
    rintro e' a' w' ⟨rfl, hE'⟩
    cases e' with
    | goto l => exact absurd rfl (hg l)
    | _ => exact ⟨rfl, hE'⟩
  | .ret, tm, H, k, r, h => ⟨_, _, _, h, by simp, fun w0 H0 μ0 a w hd hE => wp_ret ⟨rfl, hE⟩⟩
  | .rangeFunc .., _, _, _, _, h => by simp [evCode] at h
  | .goto _, _, _, _, _, h => by simp [evCode] at h
  | .refuse _, _, _, _, _, h => by simp [evCode] at h

def resF (tmps : Array Value) : ResultVar → Sem Value
  | .tmp t => pure (tmps.getD t undef)
  | .cell x t => do loadVar t (← asAddr (tmps.getD x undef))
theorem results_eq (fn : Func) (tmps : Array Value) : results fn tmps = (do let vs ← fn.results.mapM (resF tmps); pure (if h : vs.size = 1 then vs[0] else .tuple vs)) := by
  unfold results
  congr 1
theorem res_run {μ : Nat → Option Nat} {tm : List AV} {H : Heap} {a : Act} {w : World} (ht : VRels ex μ tm a.tmps.toList) (hH : HRel ex μ H w) : ∀ (rs : List ResultVar) (l : List AV), resA P tm H rs = some l →
    ∃ vs : List Value, (rs.mapM (resF a.tmps)).run P w = .ok vs w ∧ VRels ex μ l vs
  | [], l, h => by simp only [resA, Option.some.injEq] at h; subst h; exact ⟨[], rfl, VRels.nil⟩
  | .tmp t :: rs, l, h => by
    simp only [resA] at h
    split at h
    · rename_i l' hl
      cases h
      obtain ⟨vs, h1, h2⟩ := res_run ht hH rs l' hl
      have h3 := ht.getD t
      refine ⟨a.tmps.getD t undef :: vs, ?_, VRels.cons (by simpa using h3) h2⟩
      simp only [List.mapM_cons, resF, Sem.run_bind, Sem.run_pure, Result.andThen_ok, h1]
    · cases h
  | .cell x t :: rs, l, h => by
    simp only [resA] at h
    split at h
    · rename_i p hp
      split at h
      · rename_i v l' hv hl
        cases h
        obtain ⟨vs, h1, h2⟩ := res_run ht hH rs l' hl
        have h3 := ht.getD x
        rw [hp] at h3
        simp only [VRel] at h3
        obtain ⟨c, hc, he⟩ := h3
        obtain ⟨u, h4, h5⟩ := load_run hH hc hv
        have he' : a.tmps.getD x undef = .pointer (some ⟨c, p.2, none⟩) := by simpa using he
        refine ⟨u :: vs, ?_, VRels.cons h5 h2⟩
        have h6 : (asAddr (a.tmps.getD x undef)).run P w = .ok ⟨c, p.2, none⟩ w := by rw [he']; rfl
        simp only [List.mapM_cons, resF, Sem.run_bind, h6, Sem.run_pure, Result.andThen_ok, h4, h1]
      · cases h
    · cases h
theorem fin_sim {fn : Func} {tm : List AV} {H : Heap} {k : AV → Heap → Option Res} {r : Res} (h : finA P fn tm H k = some r) :
    ∃ v, k v H = some r ∧ ∀ (w0 : World) (H0 : Heap) (μ0 : Nat → Option Nat) (a : Act) (w : World), Ends ex tm w0 H0 μ0 H a w →
      ∃ u μ, (results fn a.tmps).run P w = .ok u w ∧ VRel ex μ v u ∧ Goes ex w0 H0 μ0 w H μ ∧ Dom μ H := by
  unfold finA at h
  split at h
  · rename_i v hres
    refine ⟨v, h, ?_⟩
    rintro w0 H0 μ0 a w ⟨μ, ht, _, hg, hd⟩
    obtain ⟨vs, h1, h2⟩ := res_run ht hg.rel _ _ hres
    obtain ⟨u, q, rfl, h3, h4⟩ := h2.uncons
    rw [VRels.nil_iff.1 h4] at h1
    refine ⟨u, μ, ?_, h3, hg, hd⟩
    rw [results_eq]
    simp only [Sem.run_bind, Array.mapM_eq_mapM_toList, Sem.run_map, h1, Result.andThen_ok, Sem.run_pure]
    simp
  · rename_i l hne hres
    refine ⟨.tup l, h, ?_⟩
    rintro w0 H0 μ0 a w ⟨μ, ht, _, hg, hd⟩
    obtain ⟨vs, h1, h2⟩ := res_run ht hg.rel _ _ hres
    have hlen : vs.length ≠ 1 := by
      rw [h2.length]
      intro h5
      match l, h5 with
      | [x], _ => exact hne x rfl
    refine ⟨.tuple vs.toArray, μ, ?_, by simp only [VRel]; exact ⟨_, rfl, by simpa using h2⟩, hg, hd⟩
    rw [results_eq]
    simp only [Sem.run_bind, Array.mapM_eq_mapM_toList, Sem.run_map, h1, Result.andThen_ok, Sem.run_pure]
    simp [hlen]
  · cases h

/-- THE CONTRACT OF A FUNCTION, out of its evaluation. -/
theorem evFn_sim (hΦ : Φ.Ok P ex) {N : Nat} {f : FuncId} {fn : Func} (hf : P.funcs[f]? = some fn) {args : List AV} {H : Heap} {k : AV → Heap → Option Res} {r : Res} (h : evFn P ex Φ N fn args H k = some r) :
    ∃ v H', k v H' = some r ∧ Sim P ex f args H v H' := by
  unfold evFn at h
  split at h
  · rename_i c hc
    unfold evBody at h
    obtain ⟨e, tm, H', hk, _, hS⟩ := evCode_sim hΦ N c _ _ _ _ h
    have fin : (e = .normal ∨ e = .ret) → finA P fn tm H' k = some r → ∃ v H', k v H' = some r ∧ Sim P ex f args H v H' := by
      intro he hk
      obtain ⟨v, hv, hF⟩ := fin_sim (ex := ex) hk
      refine ⟨v, H', hv, ?_⟩
      intro μ vs w hvs hH hd
      refine calls_of_wp hf hc ?_
      have hE : Ends ex (args ++ List.replicate (fn.ntmps - args.length) (.tup [])) w H μ H ⟨vs.toArray ++ Array.replicate (fn.ntmps - vs.toArray.size) undef, []⟩ w := by
        refine ⟨μ, ?_, rfl, Goes.refl hH, hd⟩
        have hsz : vs.toArray.size = args.length := by simp [hvs.length]
        rw [hsz]
        simp only [Array.toList_append, Array.toList_replicate]
        exact hvs.append (VRels.replicate VRel.undef _)
      refine wp_mono (hS w H μ _ w hd hE) ?_
      rintro e' a' w' ⟨rfl, hE'⟩
      obtain ⟨u, μ', h1, h2, h3, h4⟩ := hF w H μ a' w' hE'
      have hdef : a'.defers = [] := by obtain ⟨_, _, h5, _⟩ := hE'; exact h5
      rcases he with rfl | rfl
      · exact ⟨hdef, u, h1, u, μ', rfl, h2, h3, h4⟩
      · exact ⟨hdef, u, h1, u, μ', rfl, h2, h3, h4⟩
    cases e with
    | normal => exact fin (.inl rfl) hk
    | ret => exact fin (.inr rfl) hk
    | exit id => cases hk
    | goto l => cases hk
    | panic ch => cases hk
    | outgrown => cases hk
  · cases h
end sound
end Go.Sim
