/- Lists of contracts in direct form; from a contract to the row. -/
import Derived.Test.YtbbopbelaamlaaaSimDCode
import Derived.Test.YtbbopbelaamlaaaSimExact
namespace Go.Sim
abbrev XFM := List AV → Option (Ob × AV)
abbrev RFM := List AV → Heap → Option (Ob × AV)
abbrev WFM := List AV → Heap → RM
def mkEnvM (xs : List (FuncId × XFM)) (rs : List (FuncId × RFM)) (ws : List (FuncId × WFM)) : EnvM := ⟨look xs, look rs, look ws⟩
def XOkM (P : Program) (ex : Bool) (e : FuncId × XFM) : Prop :=
  ∀ args o r, e.2 args = some (o, r) → o.ok = true → ∀ (μ : Nat → Option Nat) (vs : List Value) (w : World), VRels ex μ args vs →
    ∃ v n, (callFunc e.1 vs.toArray).run P w = .ok (.value v) { w with drawn := w.drawn + n } ∧ VRel ex μ r v
structure ROkM (P : Program) (ex : Bool) (e : FuncId × RFM) : Prop where
  call : ∀ (args : Array Value) (w : World), (callFunc e.1 args).run P w = .ok (.enter e.1 args) w
  sound : ∀ args H o v, e.2 args H = some (o, v) → o.ok = true → SimR P ex e.1 args H v
  any : ∀ args H G, e.2 args H = e.2 args G
structure WOkM (P : Program) (ex : Bool) (e : FuncId × WFM) : Prop where
  call : ∀ (args : Array Value) (w : World), (callFunc e.1 args).run P w = .ok (.enter e.1 args) w
  sound : ∀ args H o v H' d, e.2 args H = some (o, v, H', d) → HInv H [] H' d ∧ (o.ok = true → Sim P ex e.1 args H v H')
theorem mkEnvM_ok {P : Program} {ex : Bool} {xs : List (FuncId × XFM)} {rs : List (FuncId × RFM)} {ws : List (FuncId × WFM)} (hx : All (XOkM P ex) xs) (hr : All (ROkM P ex) rs) (hw : All (WOkM P ex) ws) : (mkEnvM xs rs ws).Ok P ex where
  env := {
    x := by
      intro f F hF args r h
      simp only [EnvM.env, mkEnvM] at hF
      split at hF
      · rename_i G hG
        cases hF
        simp only [toX] at h
        split at h
        · rename_i o v hv
          simp only [Option.some.injEq, Prod.mk.injEq] at h
          obtain ⟨h1, rfl⟩ := h
          exact hx.mem (look_mem hG) args o v hv h1
        · cases h
      · cases hF
    rc := by
      intro f F hF
      simp only [EnvM.env, mkEnvM] at hF
      split at hF
      · rename_i G hG; exact (hr.mem (look_mem hG)).call
      · cases hF
    r := by
      intro f F hF args H k o h
      simp only [EnvM.env, mkEnvM] at hF
      split at hF
      · rename_i G hG
        cases hF
        simp only [toR] at h
        split at h
        · rename_i ob v hv
          obtain ⟨h1, h2⟩ := cond_some h rfl
          exact ⟨v, h2, (hr.mem (look_mem hG)).sound _ _ _ _ hv h1⟩
        · cases h
      · cases hF
    wc := by
      intro f F hF
      simp only [EnvM.env, mkEnvM] at hF
      split at hF
      · rename_i G hG; exact (hw.mem (look_mem hG)).call
      · cases hF
    w := by
      intro f F hF args H k o h
      simp only [EnvM.env, mkEnvM] at hF
      split at hF
      · rename_i G hG
        cases hF
        simp only [toW] at h
        split at h
        · rename_i ob v H' d hv
          obtain ⟨h1, h2⟩ := cond_some h rfl
          exact ⟨v, H', h2, ((hw.mem (look_mem hG)).sound _ _ _ _ _ _ hv).2 h1⟩
        · cases h
      · cases hF }
  inv := fun f F hF args H ob v H' d h => ((hw.mem (look_mem hF)).sound _ _ _ _ _ _ h).1
  rall := fun f F hF => (hr.mem (look_mem hF)).any

def outV (r : RM) : Option (Ob × AV) := match r with | some (o, v, _, _) => some (o, v) | none => none
theorem outV_some {r : RM} {o : Ob} {v : AV} (h : outV r = some (o, v)) : ∃ G d, r = some (o, v, G, d) := by
  cases r with
  | none => cases h
  | some p => obtain ⟨p1, p2, p3, p4⟩ := p; cases h; exact ⟨p3, p4, rfl⟩
def outB (r : RM) : Option (Bool × AV) := match r with | some (o, v, _, _) => some (o.ok, v) | none => none
theorem outB_some {r : RM} {b : Bool} {v : AV} (h : outB r = some (b, v)) : ∃ o G d, r = some (o, v, G, d) ∧ o.ok = b := by
  cases r with
  | none => cases h
  | some p => obtain ⟨p1, p2, p3, p4⟩ := p; cases h; exact ⟨p1, p3, p4, rfl, rfl⟩
/-- A contract by a plain function of the arguments. -/
def pureM (S : List AV → Option (Ob × AV)) : RFM := fun args _ => S args
theorem ROkM.pure {P : Program} {ex : Bool} {M : EnvM} {N : Nat} {lits fk : List Tmp} {f : FuncId} {fn : Func} (hM : M.Ok P ex) (hf : P.funcs[f]? = some fn) (hc : ∀ (args : Array Value) (w : World), (callFunc f args).run P w = .ok (.enter f args) w)
    {S : List AV → Option (Ob × AV)} (h : ∀ args o v, S args = some (o, v) → AV.flats args = true ∧ v.flat = true ∧ ∃ b, outB (evFnM P ex M lits fk N fn args []) = some (b, v) ∧ (o.ok = true → b = true)) : ROkM P ex (f, pureM S) where
  call := hc
  any := fun _ _ _ => rfl
  sound := by
    intro args H o v hv ho
    obtain ⟨h1, h2, b, h3, h4⟩ := h args o v hv
    obtain ⟨o', G, d, h5, h6⟩ := outB_some h3
    exact Sim.pure (evFnM_sim hM hf h5 (h6.trans (h4 ho))) h1 h2 H
/-- A contract that was proved with the other evaluator. -/
theorem ROk.toM {P : Program} {ex : Bool} {f : FuncId} {S : List AV → Option AV} (h : ROk P ex (f, pureF S)) : ROkM P ex (f, pureM fun args => match S args with | some v => some (.tt, v) | none => none) where
  call := h.call
  any := fun _ _ _ => rfl
  sound := by
    intro args H o v hv ho
    simp only [pureM] at hv
    split at hv
    · rename_i u hu
      cases hv
      obtain ⟨v', h1, h2⟩ := h.sound args H (fun v => some (v, [])) (v, []) (by simp only [pureF, hu])
      simp only [Option.some.injEq, Prod.mk.injEq, and_true] at h1
      subst h1; exact h2
    · cases hv
/-- A callee that is walked into at each call. -/
def inlWM (P : Program) (ex : Bool) (M : EnvM) (lits fk : List Tmp) (N : Nat) (fn : Func) : WFM := fun args H => evFnM P ex M lits fk N fn args H
theorem WOkM.inl {P : Program} {ex : Bool} {M : EnvM} {lits fk : List Tmp} {N : Nat} {f : FuncId} {fn : Func} (hM : M.Ok P ex) (hf : P.funcs[f]? = some fn) (hc : ∀ (args : Array Value) (w : World), (callFunc f args).run P w = .ok (.enter f args) w) :
    WOkM P ex (f, inlWM P ex M lits fk N fn) where
  call := hc
  sound := fun _ _ _ _ _ _ h => ⟨evFnM_inv hM h, fun ho => evFnM_sim hM hf h ho⟩
def inlRM (P : Program) (ex : Bool) (M : EnvM) (lits fk : List Tmp) (N : Nat) (fn : Func) : RFM := fun args _ => cond (AV.flats args) (match evFnM P ex M lits fk N fn args [] with | some (o, v, _, _) => cond v.flat (some (o, v)) none | none => none) none
theorem ROkM.inl {P : Program} {ex : Bool} {M : EnvM} {lits fk : List Tmp} {N : Nat} {f : FuncId} {fn : Func} (hM : M.Ok P ex) (hf : P.funcs[f]? = some fn) (hc : ∀ (args : Array Value) (w : World), (callFunc f args).run P w = .ok (.enter f args) w) :
    ROkM P ex (f, inlRM P ex M lits fk N fn) where
  call := hc
  any := fun _ _ _ => rfl
  sound := by
    intro args H o v hv ho
    simp only [inlRM] at hv
    obtain ⟨h1, hv⟩ := cond_some hv rfl
    split at hv
    · rename_i o' v' G d he
      obtain ⟨h2, hv⟩ := cond_some hv rfl
      cases hv
      exact Sim.pure (evFnM_sim hM hf he ho) h1 h2 H
    · cases hv
def xFM (ex : Bool) : XK → XFM
  | .frombits, [.int .u64 n] => some (.bit (u64ok n), .float (cond ex n.toNat (cn n.toNat)))
  | .tobits, [.float a] => some (cond ex .tt (.bit (!nanb a)), .int .u64 a)
  | .sqrt, [.float a] => cond ex none (some (.tt, .float (fsqrt a)))
  | _, _ => none
theorem xM_ok {P : Program} {ex : Bool} {f : FuncId} (k : XK) (h : ∀ (args : Array Value) (w : World), (callFunc f args).run P w = ((xE k args).run P w).andThen fun v w' => .ok (.value v) w') : XOkM P ex (f, xFM ex k) := by
  intro args o r hr ho
  refine x_ok (ex := ex) k h args r ?_
  simp only at hr ⊢
  unfold xFM at hr
  unfold xF
  split at hr
  · rename_i n
    simp only [Option.some.injEq, Prod.mk.injEq] at hr
    obtain ⟨rfl, rfl⟩ := hr
    have hb : u64ok n = true := ho
    simp only [hb]
  · rename_i a
    simp only [Option.some.injEq, Prod.mk.injEq] at hr
    obtain ⟨rfl, rfl⟩ := hr
    cases ex
    · have hb : (!nanb a) = true := ho
      simp only [cond_false, hb]
    · rfl
  · cases ex
    · rw [cond_false] at hr
      simp only [Option.some.injEq, Prod.mk.injEq] at hr
      obtain ⟨rfl, rfl⟩ := hr; rfl
    · cases hr
  · cases hr
/-- From the contract of a law to what the row asks of the walk. -/
theorem law_callsM {P : Program} {ex : Bool} {M : EnvM} {lits fk : List Tmp} {N : Nat} {f : FuncId} {fn : Func} (hM : M.Ok P ex) (hf : P.funcs[f]? = some fn) {args : List AV} {q b : Bool}
    (h : outB (evFnM P ex M lits fk N fn args []) = some (q, .bool b)) (ho : q = true) (hb : b = true)
    (hfl : AV.flats args = true) {vs : List Value} (hv : VRels ex (fun _ => none) args vs) (w : World) : Calls P f vs.toArray w fun e w' => e = .returned (.bool true) ∧ RowKit.Below w.heap.size w w' := by
  subst hb
  obtain ⟨o, G, d, h1, h2⟩ := outB_some h
  have hR := Sim.pure (evFnM_sim hM hf h1 (h2.trans ho)) hfl rfl []
  refine (hR _ vs w hv ⟨fun i b c e _ => by simp at e, fun i j c e _ => (by cases e), fun i c e => (by cases e)⟩).mono ?_
  rintro e w' ⟨v, rfl, hr, hb⟩
  simp only [VRel] at hr
  subst hr
  exact ⟨rfl, hb⟩
end Go.Sim
