/- The contract of a function, out of its evaluation; lists of contracts; from a contract to the row. -/
import Derived.Laws.Externs
import Derived.Test.YtbkogihigehjlaaLRun
namespace Go.Lst
open Go.Sim (FR nanb cn cn_of_not fsqrt nanb_cn sqrt_cn nan_sqrt draw_nan)
section sound
variable {P : Program} {ex : Bool} {M : EnvM} {lits fk : List Tmp}
theorem oneC_inv {z : St} : ∀ {c : Ch} {s : St}, AllI z c → oneC z c = some s → InvW z s
  | .last e t, s, hz, h => by
    cases e <;> simp only [oneC] at h <;> first | (cases h; exact hz) | (cases h; done)
  | .more e g t r, s, hz, h => by
    have go : (match oneC z r with | some u => some (mergeS g z t u) | none => cond g (some t) none) = some s → InvW z s := by
      intro h
      cases hr : oneC z r with
      | none =>
        rw [hr] at h
        cases g with
        | true => cases h; exact hz.1
        | false => cases h
      | some u =>
        rw [hr] at h
        cases h
        exact (mergeS_inv g hz.1 (oneC_inv hz.2 hr)).w
    have no : cond g none (oneC z r) = some s → InvW z s := by
      intro h
      cases g with
      | true => cases h
      | false => exact oneC_inv hz.2 h
    cases e with
    | normal => exact go h
    | ret => exact go h
    | exit i => exact no h
    | goto l => exact no h
    | panic p => exact no h
    | outgrown => exact no h
theorem oneC_sel {z : St} : ∀ {c : Ch} {s : St}, AllI z c → Inv z (sel c).2 → oneC z c = some s → ((sel c).1 = .normal ∨ (sel c).1 = .ret) ∧ SLe ex (sel c).2 s ∧ Inv z s
  | .last e t, s, hz, hi, h => by
    cases e <;> simp only [oneC] at h <;> first | (cases h; exact ⟨.inl rfl, SLe.refl ex _, hi⟩) | (cases h; exact ⟨.inr rfl, SLe.refl ex _, hi⟩) | (cases h; done)
  | .more e g t r, s, hz, hi, h => by
    have go : (e = .normal ∨ e = .ret) → (match oneC z r with | some u => some (mergeS g z t u) | none => cond g (some t) none) = some s → ((sel (.more e g t r)).1 = .normal ∨ (sel (.more e g t r)).1 = .ret) ∧ SLe ex (sel (.more e g t r)).2 s ∧ Inv z s := by
      intro he h
      cases hr : oneC z r with
      | none =>
        rw [hr] at h
        cases g with
        | true => cases h; exact ⟨he, SLe.refl ex _, hi⟩
        | false => cases h
      | some u =>
        rw [hr] at h
        cases h
        have hu := oneC_inv hz.2 hr
        cases g with
        | true => exact ⟨he, mergeS_le (x := t) (y := u) true hi, mergeS_inv true hz.1 hu⟩
        | false =>
          obtain ⟨h1, h2, h3⟩ := oneC_sel (c := r) hz.2 hi hr
          exact ⟨h1, h2.trans (mergeS_le (x := t) (y := u) false h3), mergeS_inv false hz.1 hu⟩
    have no : cond g none (oneC z r) = some s → ((sel (.more e g t r)).1 = .normal ∨ (sel (.more e g t r)).1 = .ret) ∧ SLe ex (sel (.more e g t r)).2 s ∧ Inv z s := by
      intro h
      cases g with
      | true => cases h
      | false => exact oneC_sel (c := r) hz.2 hi h
    cases e with
    | normal => exact go (.inl rfl) h
    | ret => exact go (.inr rfl) h
    | exit i => exact no h
    | goto l => exact no h
    | panic p => exact no h
    | outgrown => exact no h
def resF (tmps : Array Value) : ResultVar → Sem Value
  | .tmp t => pure (tmps.getD t undef)
  | .cell x t => do loadVar t (← asAddr (tmps.getD x undef))
theorem results_eq (fn : Func) (tmps : Array Value) : results fn tmps = (do let vs ← fn.results.mapM (resF tmps); pure (if h : vs.size = 1 then vs[0] else .tuple vs)) := by
  unfold results
  congr 1
theorem res_run {μ : Mu} {tm : List AV} {H : Heap} {a : Act} {w : World} (ht : VRels ex μ tm a.tmps.toList) (hH : HRel ex μ H w) : ∀ (rs : List ResultVar) (l : List AV), resA P tm H rs = some l →
    ∃ vs : List Value, (rs.mapM (resF a.tmps)).run P w = .ok vs w ∧ VRels ex μ l vs
  | [], l, h => by simp only [resA, Option.some.injEq] at h; subst h; exact ⟨[], rfl, VRels.nil⟩
  | .tmp t :: rs, l, h => by
    simp only [resA] at h
    split at h
    · rename_i l' hl
      cases h
      obtain ⟨vs, h1, h2⟩ := res_run ht hH rs l' hl
      have h3 := ht.getD t
      refine ⟨a.tmps.getD t undef :: vs, ?_, VRels.cons (by simpa using h3) h2⟩
      simp only [List.mapM_cons, resF, Sem.run_bind, Sem.run_pure, Result.andThen_ok, h1]
    · cases h
  | .cell x t :: rs, l, h => by
    simp only [resA] at h
    split at h
    · rename_i p hp
      split at h
      · rename_i v l' hv hl
        cases h
        obtain ⟨vs, h1, h2⟩ := res_run ht hH rs l' hl
        have h3 := ht.getD x
        rw [hp] at h3
        simp only [VRel] at h3
        obtain ⟨c, z, hc, he⟩ := h3
        obtain ⟨u, h4, h5⟩ := load_run hH hc hv rfl
        have he' : a.tmps.getD x undef = .pointer (some ⟨c, p.o.val, none⟩) := by simpa using he
        refine ⟨u :: vs, ?_, VRels.cons h5 h2⟩
        have h6 : (asAddr (a.tmps.getD x undef)).run P w = .ok ⟨c, p.o.val, none⟩ w := by rw [he']; rfl
        simp only [List.mapM_cons, resF, Sem.run_bind, h6, Sem.run_pure, Result.andThen_ok, h4, h1]
      · cases h
    · cases h
theorem fin_sim {fn : Func} {tm : List AV} {H : Heap} {v : AV} (h : resV P tm H fn.results.toList = some v) :
    ∀ (w0 : World) (H0 : Heap) (μ0 : Mu) (a : Act) (w : World), Ends ex tm w0 H0 μ0 H a w →
      ∃ u μ, (results fn a.tmps).run P w = .ok u w ∧ VRel ex μ v u ∧ Goes ex w0 H0 μ0 w H μ ∧ Dom μ H := by
  unfold resV at h
  split at h
  · rename_i v' hres
    cases h
    rintro w0 H0 μ0 a w ⟨μ, ht, _, hg, hd⟩
    obtain ⟨vs, h1, h2⟩ := res_run ht hg.rel _ _ hres
    obtain ⟨u, q, rfl, h3, h4⟩ := h2.uncons
    rw [VRels.nil_iff.1 h4] at h1
    refine ⟨u, μ, ?_, h3, hg, hd⟩
    rw [results_eq]
    simp only [Sem.run_bind, Array.mapM_eq_mapM_toList, Sem.run_map, h1, Result.andThen_ok, Sem.run_pure]
    simp
  · rename_i l hne hres
    cases h
    rintro w0 H0 μ0 a w ⟨μ, ht, _, hg, hd⟩
    obtain ⟨vs, h1, h2⟩ := res_run ht hg.rel _ _ hres
    have hlen : vs.length ≠ 1 := by
      rw [h2.length]
      intro h5
      match l, h5 with
      | [x], _ => exact hne x rfl
    refine ⟨.tuple vs.toArray, μ, ?_, by simp only [VRel]; exact ⟨_, rfl, by simpa using h2⟩, hg, hd⟩
    rw [results_eq]
    simp only [Sem.run_bind, Array.mapM_eq_mapM_toList, Sem.run_map, h1, Result.andThen_ok, Sem.run_pure]
    simp [hlen]
  · cases h
/-- What is said of the loops of a function holds. -/
def FnOk (P : Program) (ex : Bool) (k0 : Nat) (fn : Func) (A : Ann) : Prop := match fn.body with | some c => AnnOk P ex k0 c A | none => True
theorem evFnM_inv (hM : M.Ok P ex) {k0 N : Nat} {A : Ann} {fn : Func} (hA : FnOk P ex k0 fn A) {args : List AV} {H H' : Heap} {ob : Ob} {v : AV} {d : HV} (h : evFnM P ex M lits fk N A fn args H = some (ob, v, H', d)) : HInv H [] H' d := by
  unfold evFnM at h
  unfold FnOk at hA
  split at h
  · rename_i c hc
    rw [hc] at hA
    split at h
    · rename_i ch hch
      split at h
      · rename_i s hs
        split at h
        · cases h
          exact (oneC_inv (evCodeM_inv hM N c A _ ch hA hch) hs).h
        · cases h
      · cases h
    · cases h
  · cases h
/-- THE CONTRACT OF A FUNCTION, out of its direct evaluation. -/
theorem evFnM_sim (hM : M.Ok P ex) {k0 N : Nat} {A : Ann} {f : FuncId} {fn : Func} (hf : P.funcs[f]? = some fn) (hA : FnOk P ex k0 fn A) {args : List AV} {H H' : Heap} {ob : Ob} {v : AV} {d : HV}
    (h : evFnM P ex M lits fk N A fn args H = some (ob, v, H', d)) (hk : H.length ≤ k0) (hok : ob.ok = true) : Sim P ex f args H v H' := by
  unfold evFnM at h
  unfold FnOk at hA
  split at h
  · rename_i c hc
    rw [hc] at hA
    split at h
    · rename_i ch hch
      split at h
      · rename_i s hs
        split at h
        · rename_i u hu
          cases h
          have h1 := evCodeM_spec hM N c A _ ch hA hch
          obtain ⟨he, hle, _⟩ := oneC_sel (ex := ex) (evCodeM_inv hM N c A _ ch hA hch) h1.inv hs
          obtain ⟨_, _, hS⟩ := h1.run (hle.ob hok)
          have hF := fin_sim (ex := ex) hu
          intro μ vs w hvs hH hd
          refine calls_of_wp hf hc ?_
          have hE : Ends ex (args ++ List.replicate (fn.ntmps - args.length) (.tup [])) w H μ H ⟨vs.toArray ++ Array.replicate (fn.ntmps - vs.toArray.size) undef, []⟩ w := by
            refine ⟨μ, ?_, rfl, Goes.refl hH, hd⟩
            have hsz : vs.toArray.size = args.length := by simp [hvs.length]
            rw [hsz]
            simp only [Array.toList_append, Array.toList_replicate]
            exact hvs.append (VRels.replicate VRel.undef _)
          refine wp_mono (hS w H μ _ w ⟨hd, hk⟩ hE) ?_
          rintro e' a' w' ⟨rfl, hE'⟩
          obtain ⟨u', μ', h1, h2, h3, h4⟩ := hF w H μ a' w' (hle.ends _ _ _ _ _ hE')
          have hdef : a'.defers = [] := by obtain ⟨_, _, h5, _⟩ := hE'; exact h5
          rcases he with he | he <;> rw [he]
          · exact ⟨hdef, u', h1, u', μ', rfl, h2, h3, h4⟩
          · exact ⟨hdef, u', h1, u', μ', rfl, h2, h3, h4⟩
        · cases h
      · cases h
    · cases h
  · cases h
end sound

def look {α : Type _} : List (FuncId × α) → FuncId → Option α
  | [], _ => none
  | (g, x) :: r, f => cond (Nat.beq g f) (some x) (look r f)
theorem look_mem {α : Type _} : ∀ {l : List (FuncId × α)} {f : FuncId} {x : α}, look l f = some x → (f, x) ∈ l
  | [], _, _, h => by simp [look] at h
  | (g, y) :: r, f, x, h => by
    simp only [look] at h
    cases hb : Nat.beq g f with
    | true => rw [hb] at h; cases h; rw [Nat.eq_of_beq_eq_true hb]; simp
    | false => rw [hb] at h; exact List.mem_cons_of_mem _ (look_mem h)
inductive All {α : Type _} (p : α → Prop) : List α → Prop
  | nil : All p []
  | cons {a : α} {l : List α} (h : p a) (t : All p l) : All p (a :: l)
theorem All.mem {α : Type _} {p : α → Prop} : ∀ {l : List α}, All p l → ∀ {a : α}, a ∈ l → p a
  | _, .nil, _, h => by simp at h
  | _, .cons h t, _, hm => by
    rcases List.mem_cons.1 hm with rfl | hm
    · exact h
    · exact t.mem hm

abbrev XFM := List AV → Option (Ob × AV)
abbrev SFM := List AV → Option (Ob × AV × Heap)
abbrev WFM := List AV → Heap → RM
def mkEnvM (xs : List (FuncId × XFM)) (ss : List (FuncId × SFM)) (ws : List (FuncId × WFM)) : EnvM := ⟨look xs, look ss, look ws⟩
def XOkM (P : Program) (ex : Bool) (e : FuncId × XFM) : Prop :=
  ∀ args o r, e.2 args = some (o, r) → o.ok = true → ∀ (μ : Mu) (vs : List Value) (w : World), VRels ex μ args vs →
    ∃ v n, (callFunc e.1 vs.toArray).run P w = .ok (.value v) { w with drawn := w.drawn + n } ∧ VRel ex μ r v
structure SOkM (P : Program) (ex : Bool) (e : FuncId × SFM) : Prop where
  call : ∀ (args : Array Value) (w : World), (callFunc e.1 args).run P w = .ok (.enter e.1 args) w
  sound : ∀ args o v G, e.2 args = some (o, v, G) → o.ok = true → Sim P ex e.1 args [] v G
structure WOkM (P : Program) (ex : Bool) (e : FuncId × WFM) : Prop where
  call : ∀ (args : Array Value) (w : World), (callFunc e.1 args).run P w = .ok (.enter e.1 args) w
  sound : ∀ args H o v H' d, e.2 args H = some (o, v, H', d) → HInv H [] H' d ∧ (o.ok = true → Sim P ex e.1 args H v H')
theorem mkEnvM_ok {P : Program} {ex : Bool} {xs : List (FuncId × XFM)} {ss : List (FuncId × SFM)} {ws : List (FuncId × WFM)} (hx : All (XOkM P ex) xs) (hs : All (SOkM P ex) ss) (hw : All (WOkM P ex) ws) : (mkEnvM xs ss ws).Ok P ex where
  x := fun _ _ h => hx.mem (look_mem h)
  sc := fun _ _ h => (hs.mem (look_mem h)).call
  s := fun _ _ h => (hs.mem (look_mem h)).sound
  wc := fun _ _ h => (hw.mem (look_mem h)).call
  w := fun _ _ h args H o v H' d e ho => ((hw.mem (look_mem h)).sound args H o v H' d e).2 ho
  inv := fun _ _ h args H o v H' d e => ((hw.mem (look_mem h)).sound args H o v H' d e).1
/-- What comes out of an evaluation, the truth in the open. -/
def outS (r : RM) : Option (Bool × AV × Heap) := match r with | some (o, v, G, _) => some (o.ok, v, G) | none => none
theorem outS_some {r : RM} {b : Bool} {v : AV} {G : Heap} (h : outS r = some (b, v, G)) : ∃ o d, r = some (o, v, G, d) ∧ o.ok = b := by
  cases r with
  | none => cases h
  | some p => obtain ⟨p1, p2, p3, p4⟩ := p; cases h; exact ⟨p1, p4, rfl, rfl⟩
def outB (r : RM) : Option (Bool × AV) := match r with | some (o, v, _, _) => some (o.ok, v) | none => none
theorem outB_some {r : RM} {b : Bool} {v : AV} (h : outB r = some (b, v)) : ∃ o G d, r = some (o, v, G, d) ∧ o.ok = b := by
  cases r with
  | none => cases h
  | some p => obtain ⟨p1, p2, p3, p4⟩ := p; cases h; exact ⟨p1, p3, p4, rfl, rfl⟩
/-- A contract by a plain function of the arguments; of what is new nothing is told. -/
theorem SOkM.flat {P : Program} {ex : Bool} {M : EnvM} {N : Nat} {lits fk : List Tmp} {A : Ann} {f : FuncId} {fn : Func} (hM : M.Ok P ex) (hf : P.funcs[f]? = some fn) (hA : FnOk P ex 0 fn A) (hc : ∀ (args : Array Value) (w : World), (callFunc f args).run P w = .ok (.enter f args) w)
    {S : List AV → Option (Ob × AV)} (h : ∀ args o v, S args = some (o, v) → o.ok = true → outB (evFnM P ex M lits fk N A fn args []) = some (true, v) ∧ v.flat = true) : SOkM P ex (f, fun args => match S args with | some (o, v) => some (o, v, []) | none => none) where
  call := hc
  sound := by
    intro args o v G hv ho
    simp only at hv
    split at hv
    · rename_i o' v' hS
      cases hv
      obtain ⟨h1, h2⟩ := h args _ _ hS ho
      obtain ⟨o'', G', d, h4, h5⟩ := outB_some h1
      have hsim := evFnM_sim hM hf hA h4 (Nat.le_refl _) h5
      -- what is new is left aside
      intro μ vs w hvs hH hd
      refine (hsim μ vs w hvs hH hd).mono ?_
      rintro e w' ⟨u, μ', rfl, q1, q2, q3⟩
      have hlt : ∀ i g, μ.pl i g = none := fun i g => hd.out i g (Nat.zero_le _)
      have hb : RowKit.Below w.heap.size w w' := q2.below hlt
      exact ⟨u, μ, rfl, VRel.flat _ _ h2 q1, Goes.of_below hH hb, hd⟩
    · cases hv
theorem SOkM.full {P : Program} {ex : Bool} {M : EnvM} {N : Nat} {lits fk : List Tmp} {A : Ann} {f : FuncId} {fn : Func} (hM : M.Ok P ex) (hf : P.funcs[f]? = some fn) (hA : FnOk P ex 0 fn A) (hc : ∀ (args : Array Value) (w : World), (callFunc f args).run P w = .ok (.enter f args) w)
    {S : List AV → Option (Ob × AV × Heap)} (h : ∀ args o v G, S args = some (o, v, G) → o.ok = true → outS (evFnM P ex M lits fk N A fn args []) = some (true, v, G)) : SOkM P ex (f, S) where
  call := hc
  sound := by
    intro args o v G hv ho
    obtain ⟨o', d, h4, h5⟩ := outS_some (h args o v G hv ho)
    exact evFnM_sim hM hf hA h4 (Nat.le_refl _) h5
/-- A callee that is evaluated at each call. -/
def inlSM (P : Program) (ex : Bool) (M : EnvM) (lits fk : List Tmp) (N : Nat) (A : Ann) (fn : Func) : SFM := fun args => match evFnM P ex M lits fk N A fn args [] with | some (o, v, G, _) => some (o, v, G) | none => none
theorem SOkM.inl {P : Program} {ex : Bool} {M : EnvM} {lits fk : List Tmp} {N : Nat} {A : Ann} {f : FuncId} {fn : Func} (hM : M.Ok P ex) (hf : P.funcs[f]? = some fn) (hA : FnOk P ex 0 fn A) (hc : ∀ (args : Array Value) (w : World), (callFunc f args).run P w = .ok (.enter f args) w) :
    SOkM P ex (f, inlSM P ex M lits fk N A fn) where
  call := hc
  sound := by
    intro args o v G hv ho
    simp only [inlSM] at hv
    split at hv
    · rename_i o' v' G' d he
      cases hv
      exact evFnM_sim hM hf hA he (Nat.le_refl _) ho
    · cases hv
/-- The same, called by what has at most K blocks. -/
def inlWM (P : Program) (ex : Bool) (M : EnvM) (lits fk : List Tmp) (N : Nat) (A : Ann) (fn : Func) (K : Nat) : WFM := fun args H => cond (Nat.ble H.length K) (evFnM P ex M lits fk N A fn args H) none
theorem WOkM.inl {P : Program} {ex : Bool} {M : EnvM} {lits fk : List Tmp} {N : Nat} {A : Ann} {f : FuncId} {fn : Func} {K : Nat} (hM : M.Ok P ex) (hf : P.funcs[f]? = some fn) (hA : FnOk P ex K fn A) (hc : ∀ (args : Array Value) (w : World), (callFunc f args).run P w = .ok (.enter f args) w) :
    WOkM P ex (f, inlWM P ex M lits fk N A fn K) where
  call := hc
  sound := fun args H _ _ _ _ h => by
    simp only [inlWM] at h
    cases hb : Nat.ble H.length K with
    | false => rw [hb] at h; cases h
    | true => rw [hb] at h; exact ⟨evFnM_inv hM hA h, fun ho => evFnM_sim hM hf hA h (Nat.le_of_ble_eq_true hb) ho⟩
/-- From the contract of a law to what the row asks of the walk. -/
theorem law_callsM {P : Program} {ex : Bool} {M : EnvM} {lits fk : List Tmp} {N : Nat} {A : Ann} {f : FuncId} {fn : Func} (hM : M.Ok P ex) (hf : P.funcs[f]? = some fn) (hA : FnOk P ex 0 fn A) {args : List AV} {q b : Bool}
    (h : outB (evFnM P ex M lits fk N A fn args []) = some (q, .bool b)) (ho : q = true) (hb : b = true)
    (w : World) {vs : List Value} (hv : VRels ex (still w) args vs) : Calls P f vs.toArray w fun e w' => e = .returned (.bool true) ∧ RowKit.Below w.heap.size w w' := by
  subst hb
  obtain ⟨o, G, d, h1, h2⟩ := outB_some h
  refine (evFnM_sim hM hf hA h1 (Nat.le_refl _) (h2.trans ho) (still w) vs w hv (still_rel ex w) (still_dom w)).mono ?_
  rintro e w' ⟨v, μ', rfl, hr, g, _⟩
  simp only [VRel] at hr
  subst hr
  exact ⟨rfl, g.below fun _ _ => rfl⟩
/-- Functions without a body. -/
inductive XK where
  | frombits | tobits | sqrt
def u64ok : Int → Bool
  | .ofNat n => Nat.blt n 18446744073709551616
  | _ => false
def xE : XK → Array Value → Sem Value
  | .frombits => Extern.MathFloatBits.float64frombits
  | .tobits => Extern.MathFloatBits.float64bits
  | .sqrt => Extern.MathSqrt.sqrt
theorem run_frombits (P : Program) (w : World) (n : Int) : (Extern.MathFloatBits.float64frombits #[.int .u64 n]).run P w = .ok (.float .f64 n.toNat) w := rfl
theorem run_tobits (P : Program) (w : World) (n : Nat) : (Extern.MathFloatBits.float64bits #[.float .f64 n]).run P w = .ok (.int .u64 n) w := rfl
theorem run_sqrt_eq (P : Program) (w : World) (x : Nat) : (Extern.MathSqrt.sqrt #[.float .f64 x]).run P w = ((match Ieee.double.sqrt x with | some r => pure (.float .f64 r) | none => (do pure (.float .f64 (← choose (.nanBits .f64 x x)))) : Sem Value)).run P w := rfl
def xFM (ex : Bool) : XK → XFM
  | .frombits, [.int .u64 n] => some (.bit (u64ok n), .float (cond ex n.toNat (cn n.toNat)))
  | .tobits, [.float a] => some (cond ex .tt (.bit (!nanb a)), .int .u64 a)
  | .sqrt, [.float a] => cond ex none (some (.tt, .float (fsqrt a)))
  | _, _ => none
theorem xM_ok {P : Program} {ex : Bool} {f : FuncId} (k : XK) (h : ∀ (args : Array Value) (w : World), (callFunc f args).run P w = ((xE k args).run P w).andThen fun v w' => .ok (.value v) w') : XOkM P ex (f, xFM ex k) := by
  intro args o r hr ho μ vs w hv
  simp only at hr ⊢
  rw [h]
  unfold xFM at hr
  split at hr
  · rename_i n
    simp only [Option.some.injEq, Prod.mk.injEq] at hr
    obtain ⟨rfl, rfl⟩ := hr
    have hg : u64ok n = true := ho
    obtain ⟨v1, r1, rfl, h1, hv⟩ := hv.uncons
    rw [VRels.nil_iff.1 hv]
    simp only [VRel] at h1; subst h1
    refine ⟨.float .f64 n.toNat, 0, by simp only [xE, run_frombits, Result.andThen_ok]; rfl, ?_⟩
    simp only [VRel]
    refine ⟨_, rfl, ?_, ?_⟩
    · cases n with
      | ofNat m => simp only [u64ok, Nat.blt_eq] at hg; exact hg
      | negSucc m => cases hg
    · cases ex <;> rfl
  · rename_i a
    simp only [Option.some.injEq, Prod.mk.injEq] at hr
    obtain ⟨rfl, rfl⟩ := hr
    obtain ⟨v1, r1, rfl, h1, hv⟩ := hv.uncons
    rw [VRels.nil_iff.1 hv]
    simp only [VRel] at h1
    obtain ⟨b, rfl, hb, hab⟩ := h1
    have he : a = b := by
      cases ex
      · have hg : (!nanb a) = true := ho
        simp only [Bool.not_eq_true'] at hg
        rw [show a = cn b from hab, nanb_cn] at hg
        rw [show a = cn b from hab, cn_of_not hg]
      · exact hab
    subst he
    exact ⟨.int .u64 a, 0, by simp only [xE, run_tobits, Result.andThen_ok]; rfl, by simp only [VRel]⟩
  · rename_i a
    cases ex
    · rw [cond_false] at hr
      simp only [Option.some.injEq, Prod.mk.injEq] at hr
      obtain ⟨rfl, rfl⟩ := hr
      obtain ⟨v1, r1, rfl, h1, hv⟩ := hv.uncons
      rw [VRels.nil_iff.1 hv]
      simp only [VRel] at h1
      obtain ⟨b, rfl, hb, hab⟩ := h1
      have hc : a = cn b := hab
      have key : ∃ s n, (Extern.MathSqrt.sqrt #[.float .f64 b]).run P w = .ok (.float .f64 s) { w with drawn := w.drawn + n } ∧ FR false (fsqrt a) s := by
        rw [run_sqrt_eq, hc]
        unfold fsqrt
        rw [sqrt_cn]
        cases hs : Ieee.double.sqrt b with
        | some s => exact ⟨s, 0, rfl, Ieee.double.sqrt_lt hs, (cn_of_not (nan_sqrt hs)).symm⟩
        | none => exact draw_nan P w b b
      obtain ⟨s, n, h1, h2⟩ := key
      exact ⟨.float .f64 s, n, by simp only [xE, h1, Result.andThen_ok], by simp only [VRel]; exact ⟨s, rfl, h2⟩⟩
    · cases hr
  · cases hr
end Go.Lst
