/- Lists of contracts; the functions without a body; from a contract to the row. -/
import Derived.Laws.Externs
import Derived.Test.YtbbopbelaamlaaaSimRun
namespace Go.Sim

def look {α : Type _} : List (FuncId × α) → FuncId → Option α
  | [], _ => none
  | (g, x) :: r, f => cond (Nat.beq g f) (some x) (look r f)
theorem look_mem {α : Type _} : ∀ {l : List (FuncId × α)} {f : FuncId} {x : α}, look l f = some x → (f, x) ∈ l
  | [], _, _, h => by simp [look] at h
  | (g, y) :: r, f, x, h => by
    simp only [look] at h
    cases hb : Nat.beq g f with
    | true => rw [hb] at h; cases h; rw [Nat.eq_of_beq_eq_true hb]; simp
    | false => rw [hb] at h; exact List.mem_cons_of_mem _ (look_mem h)
abbrev XF := List AV → Option (Bool × AV)
abbrev RF := List AV → Heap → (AV → Option Res) → Option Res
abbrev WF := List AV → Heap → (AV → Heap → Option Res) → Option Res
def mkEnv (xs : List (FuncId × XF)) (rs : List (FuncId × RF)) (ws : List (FuncId × WF)) : Env := ⟨look xs, look rs, look ws⟩

def XOk (P : Program) (ex : Bool) (e : FuncId × XF) : Prop :=
  ∀ args r, e.2 args = some (true, r) → ∀ (μ : Nat → Option Nat) (vs : List Value) (w : World), VRels ex μ args vs →
    ∃ v n, (callFunc e.1 vs.toArray).run P w = .ok (.value v) { w with drawn := w.drawn + n } ∧ VRel ex μ r v
structure ROk (P : Program) (ex : Bool) (e : FuncId × RF) : Prop where
  call : ∀ (args : Array Value) (w : World), (callFunc e.1 args).run P w = .ok (.enter e.1 args) w
  sound : ∀ args H k o, e.2 args H k = some o → ∃ v, k v = some o ∧ SimR P ex e.1 args H v
structure WOk (P : Program) (ex : Bool) (e : FuncId × WF) : Prop where
  call : ∀ (args : Array Value) (w : World), (callFunc e.1 args).run P w = .ok (.enter e.1 args) w
  sound : ∀ args H k o, e.2 args H k = some o → ∃ v H', k v H' = some o ∧ Sim P ex e.1 args H v H'
inductive All {α : Type _} (p : α → Prop) : List α → Prop
  | nil : All p []
  | cons {a : α} {l : List α} (h : p a) (t : All p l) : All p (a :: l)
theorem All.mem {α : Type _} {p : α → Prop} : ∀ {l : List α}, All p l → ∀ {a : α}, a ∈ l → p a
  | _, .nil, _, h => by simp at h
  | _, .cons h t, _, hm => by
    rcases List.mem_cons.1 hm with rfl | hm
    · exact h
    · exact t.mem hm
theorem mkEnv_ok {P : Program} {ex : Bool} {xs : List (FuncId × XF)} {rs : List (FuncId × RF)} {ws : List (FuncId × WF)} (hx : All (XOk P ex) xs) (hr : All (ROk P ex) rs) (hw : All (WOk P ex) ws) : (mkEnv xs rs ws).Ok P ex where
  x := fun _ _ h => hx.mem (look_mem h)
  rc := fun _ _ h => (hr.mem (look_mem h)).call
  r := fun _ _ h => (hr.mem (look_mem h)).sound
  wc := fun _ _ h => (hw.mem (look_mem h)).call
  w := fun _ _ h => (hw.mem (look_mem h)).sound

/-- A contract by a plain function of the arguments. -/
def pureF (S : List AV → Option AV) : RF := fun args _ k => match S args with | some v => k v | none => none
def endP : AV → Heap → Option Res := fun v _ => some (v, [])
theorem ROk.pure {P : Program} {ex : Bool} {Φ : Env} {N : Nat} {f : FuncId} {fn : Func} (hΦ : Φ.Ok P ex) (hf : P.funcs[f]? = some fn) (hc : ∀ (args : Array Value) (w : World), (callFunc f args).run P w = .ok (.enter f args) w)
    {S : List AV → Option AV} (h : ∀ args v, S args = some v → AV.flats args = true ∧ v.flat = true ∧ evFn P ex Φ N fn args [] endP = some (v, [])) : ROk P ex (f, pureF S) where
  call := hc
  sound := by
    intro args H k o ho
    simp only [pureF] at ho
    split at ho
    · rename_i v hv
      obtain ⟨h1, h2, h3⟩ := h args v hv
      obtain ⟨v', H', hk, hS⟩ := evFn_sim hΦ hf h3
      simp only [endP, Option.some.injEq, Prod.mk.injEq] at hk
      obtain ⟨rfl, _⟩ := hk
      exact ⟨_, ho, Sim.pure hS h1 h2 H⟩
    · cases ho
theorem node_eq {c : Bool} {x y z : Option Res} (hx : c = true → x = z) (hy : c = false → y = z) : cond c x y = z := by
  cases c
  · exact hy rfl
  · exact hx rfl
/-- A callee that is walked into at each call. -/
def inlF (P : Program) (ex : Bool) (Φ : Env) (N : Nat) (fn : Func) : WF := fun args H k => evFn P ex Φ N fn args H k
theorem WOk.inl {P : Program} {ex : Bool} {Φ : Env} {N : Nat} {f : FuncId} {fn : Func} (hΦ : Φ.Ok P ex) (hf : P.funcs[f]? = some fn) (hc : ∀ (args : Array Value) (w : World), (callFunc f args).run P w = .ok (.enter f args) w) :
    WOk P ex (f, inlF P ex Φ N fn) where
  call := hc
  sound := fun _ _ _ _ h => evFn_sim hΦ hf h
/-- The same where nothing goes in that leads into memory, and nothing comes out: it may stand in a region that draws. -/
def inlR (P : Program) (ex : Bool) (Φ : Env) (N : Nat) (fn : Func) : RF := fun args _ k => cond (AV.flats args) (evFn P ex Φ N fn args [] (fun v _ => cond v.flat (k v) none)) none
theorem ROk.inl {P : Program} {ex : Bool} {Φ : Env} {N : Nat} {f : FuncId} {fn : Func} (hΦ : Φ.Ok P ex) (hf : P.funcs[f]? = some fn) (hc : ∀ (args : Array Value) (w : World), (callFunc f args).run P w = .ok (.enter f args) w) :
    ROk P ex (f, inlR P ex Φ N fn) where
  call := hc
  sound := by
    intro args H k o ho
    simp only [inlR] at ho
    obtain ⟨h1, ho⟩ := cond_some ho rfl
    obtain ⟨v, H', hk, hS⟩ := evFn_sim hΦ hf ho
    obtain ⟨h2, hk⟩ := cond_some hk rfl
    exact ⟨v, hk, Sim.pure hS h1 h2 H⟩

/-- Functions without a body. -/
inductive XK where
  | frombits | tobits | sqrt
def u64ok : Int → Bool
  | .ofNat n => Nat.blt n 18446744073709551616
  | _ => false
def xF (ex : Bool) : XK → XF
  | .frombits, [.int .u64 n] => some (u64ok n, .float (cond ex n.toNat (cn n.toNat)))
  | .tobits, [.float a] => some (cond ex true (!nanb a), .int .u64 a)
  | .sqrt, [.float a] => some (cond ex false true, .float (fsqrt a))
  | _, _ => none
def xE : XK → Array Value → Sem Value
  | .frombits => Extern.MathFloatBits.float64frombits
  | .tobits => Extern.MathFloatBits.float64bits
  | .sqrt => Extern.MathSqrt.sqrt
theorem run_frombits (P : Program) (w : World) (n : Int) : (Extern.MathFloatBits.float64frombits #[.int .u64 n]).run P w = .ok (.float .f64 n.toNat) w := rfl
theorem run_tobits (P : Program) (w : World) (n : Nat) : (Extern.MathFloatBits.float64bits #[.float .f64 n]).run P w = .ok (.int .u64 n) w := rfl
theorem run_sqrt_eq (P : Program) (w : World) (x : Nat) : (Extern.MathSqrt.sqrt #[.float .f64 x]).run P w = ((match Ieee.double.sqrt x with | some r => pure (.float .f64 r) | none => (do pure (.float .f64 (← choose (.nanBits .f64 x x)))) : Sem Value)).run P w := rfl
theorem x_ok {P : Program} {ex : Bool} {f : FuncId} (k : XK) (h : ∀ (args : Array Value) (w : World), (callFunc f args).run P w = ((xE k args).run P w).andThen fun v w' => .ok (.value v) w') : XOk P ex (f, xF ex k) := by
  intro args r hr μ vs w hv
  simp only at hr ⊢
  rw [h]
  unfold xF at hr
  split at hr
  · rename_i n
    simp only [Option.some.injEq, Prod.mk.injEq] at hr
    obtain ⟨hg, rfl⟩ := hr
    obtain ⟨v1, r1, rfl, h1, hv⟩ := hv.uncons
    rw [VRels.nil_iff.1 hv]
    simp only [VRel] at h1; subst h1
    refine ⟨.float .f64 n.toNat, 0, by simp only [xE, run_frombits, Result.andThen_ok]; rfl, ?_⟩
    simp only [VRel]
    refine ⟨_, rfl, ?_, ?_⟩
    · cases n with
      | ofNat m => simp only [u64ok, Nat.blt_eq] at hg; exact hg
      | negSucc m => cases hg
    · cases ex <;> rfl
  · rename_i a
    simp only [Option.some.injEq, Prod.mk.injEq] at hr
    obtain ⟨hg, rfl⟩ := hr
    obtain ⟨v1, r1, rfl, h1, hv⟩ := hv.uncons
    rw [VRels.nil_iff.1 hv]
    simp only [VRel] at h1
    obtain ⟨b, rfl, hb, hab⟩ := h1
    have he : a = b := by
      cases ex
      · simp only [cond_false, Bool.not_eq_true'] at hg
        rw [show a = cn b from hab, nanb_cn] at hg
        rw [show a = cn b from hab, cn_of_not hg]
      · exact hab
    subst he
    exact ⟨.int .u64 a, 0, by simp only [xE, run_tobits, Result.andThen_ok]; rfl, by simp only [VRel]⟩
  · rename_i a
    simp only [Option.some.injEq, Prod.mk.injEq] at hr
    obtain ⟨hg, rfl⟩ := hr
    obtain ⟨v1, r1, rfl, h1, hv⟩ := hv.uncons
    rw [VRels.nil_iff.1 hv]
    simp only [VRel] at h1
    obtain ⟨b, rfl, hb, hab⟩ := h1
    cases ex
    · have hc : a = cn b := hab
      have key : ∃ s n, (Extern.MathSqrt.sqrt #[.float .f64 b]).run P w = .ok (.float .f64 s) { w with drawn := w.drawn + n } ∧ FR false (fsqrt a) s := by
        rw [run_sqrt_eq, hc]
        unfold fsqrt
        rw [sqrt_cn]
        cases hs : Ieee.double.sqrt b with
        | some s => exact ⟨s, 0, rfl, Ieee.double.sqrt_lt hs, (cn_of_not (nan_sqrt hs)).symm⟩
        | none => exact draw_nan P w b b
      obtain ⟨s, n, h1, h2⟩ := key
      exact ⟨.float .f64 s, n, by simp only [xE, h1, Result.andThen_ok], by simp only [VRel]; exact ⟨s, rfl, h2⟩⟩
    · cases hg
  · cases hr

/-- From the contract of a law to what the row asks of the walk. -/
theorem law_calls {P : Program} {ex : Bool} {Φ : Env} {N : Nat} {f : FuncId} {fn : Func} (hΦ : Φ.Ok P ex) (hf : P.funcs[f]? = some fn) {args : List AV} (h : evFn P ex Φ N fn args [] endP = some (.bool true, []))
    (hfl : AV.flats args = true) {vs : List Value} (hv : VRels ex (fun _ => none) args vs) (w : World) : Calls P f vs.toArray w fun e w' => e = .returned (.bool true) ∧ RowKit.Below w.heap.size w w' := by
  obtain ⟨v', H', hk, hS⟩ := evFn_sim hΦ hf h
  simp only [endP, Option.some.injEq, Prod.mk.injEq] at hk
  obtain ⟨rfl, _⟩ := hk
  have hR := Sim.pure hS hfl rfl []
  refine (hR _ vs w hv ⟨fun i b c e _ => by simp at e, fun i j c e _ => (by cases e), fun i c e => (by cases e)⟩).mono ?_
  rintro e w' ⟨v, rfl, hr, hb⟩
  simp only [VRel] at hr
  subst hr
  exact ⟨rfl, hb⟩
end Go.Sim
