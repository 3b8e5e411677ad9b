/- Each operation of the model does what the abstract one does. -/
import Derived.Test.YtbkogihigehjlaaLMem
namespace Go.Lst
open Go.Sim (FR nanb cn fadd fsub fmul fdiv fneg feq flt fle fop fsqrt feq_cn flt_cn fle_cn feq_comm order_gt neg_cn neg_lt run_arith_rel cn_of_not nanb_nearest)
section
variable {P : Program} {ex : Bool} {μ : Mu}

theorem fr_feq {a x b y : Nat} (h : FR ex a x) (h' : FR ex b y) : feq a b = Go.Sim.feq x y := by
  cases ex
  · rw [show a = cn x from h.2, show b = cn y from h'.2]; exact feq_cn x y
  · rw [show a = x from h.2, show b = y from h'.2]
theorem fr_flt {a x b y : Nat} (h : FR ex a x) (h' : FR ex b y) : flt a b = Go.Sim.flt x y := by
  cases ex
  · rw [show a = cn x from h.2, show b = cn y from h'.2]; exact flt_cn x y
  · rw [show a = x from h.2, show b = y from h'.2]
theorem fr_fle {a x b y : Nat} (h : FR ex a x) (h' : FR ex b y) : fle a b = Go.Sim.fle x y := by
  cases ex
  · rw [show a = cn x from h.2, show b = cn y from h'.2]; exact fle_cn x y
  · rw [show a = x from h.2, show b = y from h'.2]
theorem fr_neg {a x : Nat} (h : FR ex a x) : FR ex (cond ex (Op.negFloat .f64 a) (fneg a)) (Op.negFloat .f64 x) := by
  refine ⟨neg_lt h.1, ?_⟩
  cases ex
  · show fneg a = cn _; rw [show a = cn x from h.2]; exact neg_cn x
  · show Op.negFloat .f64 a = _; rw [show a = x from h.2]; rfl

theorem int_run (t : TypeId) (w : World) (op : BinOp) (k k' : IntKind) (a b : Int) (ob : Ob) (r : AV) (h : intBin op k a k' b = some (ob, r)) (hok : ob.ok = true) :
    ∃ v, (binOp op t (.int k a) (.int k' b)).run P w = .ok v w ∧ VRel ex μ r v := by
  cases op
  case shl =>
    simp only [intBin] at h
    obtain ⟨hb, h⟩ := cond_some' h rfl
    cases h
    exact ⟨_, by simp [binOp, Op.shift, show ¬ b < 0 by simpa [ilt] using hb]; rfl, by simp only [VRel]⟩
  case shr =>
    simp only [intBin] at h
    obtain ⟨hb, h⟩ := cond_some' h rfl
    cases h
    exact ⟨_, by simp [binOp, Op.shift, show ¬ b < 0 by simpa [ilt] using hb]; rfl, by simp only [VRel]⟩
  all_goals
    simp only [intBin] at h
    obtain ⟨hk, h2⟩ := cond_some h rfl
    have hk := of_decide_eq_true hk
    clear h
    subst hk
  case quo =>
    cases h2
    have hb : ¬ b = 0 := by simpa [Ob.ok, ieq] using hok
    exact ⟨_, by simp [binOp, Op.intDiv, hb]; rfl, by simp only [VRel]⟩
  case rem =>
    cases h2
    have hb : ¬ b = 0 := by simpa [Ob.ok, ieq] using hok
    exact ⟨_, by simp [binOp, Op.intDiv, hb]; rfl, by simp only [VRel]⟩
  case eql => cases h2; exact ⟨.bool (a == b), by simp [binOp, Op.intCmp], by simp only [VRel]; rfl⟩
  case neq => cases h2; exact ⟨.bool (a != b), by simp [binOp, Op.intCmp], by simp only [VRel]; rfl⟩
  case lss => cases h2; exact ⟨.bool (decide (a < b)), by simp [binOp, Op.intCmp], by simp only [VRel]; rfl⟩
  case leq => cases h2; exact ⟨.bool (decide (a ≤ b)), by simp [binOp, Op.intCmp], by simp only [VRel]; rfl⟩
  case gtr => cases h2; exact ⟨.bool (decide (b < a)), by simp [binOp, Op.intCmp], by simp only [VRel]; rfl⟩
  case geq => cases h2; exact ⟨.bool (decide (b ≤ a)), by simp [binOp, Op.intCmp], by simp only [VRel]; rfl⟩
  all_goals
    cases h2
    exact ⟨_, by simp [binOp, Op.intArith, Op.intBits]; rfl, by simp only [VRel]⟩

theorem float_run (t : TypeId) (w : World) (op : BinOp) (a b x y : Nat) (ha : FR ex a x) (hb : FR ex b y) (ob : Ob) (r : AV) (h : floatBin ex op a b = some (ob, r)) :
    ∃ v n, (binOp op t (.float .f64 x) (.float .f64 y)).run P w = .ok v { w with drawn := w.drawn + n } ∧ VRel ex μ r v := by
  have arith : (op = .add ∨ op = .sub ∨ op = .mul ∨ op = .quo) → ex = false → r = .float (fop op a b) →
      ∃ v n, (binOp op t (.float .f64 x) (.float .f64 y)).run P w = .ok v { w with drawn := w.drawn + n } ∧ VRel ex μ r v := by
    intro hop he hr
    subst he; subst hr
    obtain ⟨s, n, hrun, hs⟩ := run_arith_rel P w op hop x y
    refine ⟨.float .f64 s, n, ?_, by simp only [VRel]; exact ⟨s, rfl, by rw [show a = cn x from ha.2, show b = cn y from hb.2]; exact hs⟩⟩
    rcases hop with rfl | rfl | rfl | rfl <;> simp only [binOp, ne_eq, not_true_eq_false, if_false] <;> exact hrun
  cases op <;> simp only [floatBin] at h
  case add => obtain ⟨he, h⟩ := cond_some' h rfl; cases h; exact arith (by simp) he rfl
  case sub => obtain ⟨he, h⟩ := cond_some' h rfl; cases h; exact arith (by simp) he rfl
  case mul => obtain ⟨he, h⟩ := cond_some' h rfl; cases h; exact arith (by simp) he rfl
  case quo => obtain ⟨he, h⟩ := cond_some' h rfl; cases h; exact arith (by simp) he rfl
  case eql => cases h; exact ⟨_, 0, by rw [binOp_float_cmp_eql]; rfl, by simp only [VRel]; rw [fr_feq ha hb]; rfl⟩
  case neq => cases h; exact ⟨_, 0, by rw [binOp_float_cmp_neq]; rfl, by simp only [VRel]; rw [fr_feq ha hb]; rfl⟩
  case lss => cases h; exact ⟨_, 0, by rw [binOp_float_cmp_lss]; rfl, by simp only [VRel]; rw [fr_flt ha hb]; rfl⟩
  case leq => cases h; exact ⟨_, 0, by rw [binOp_float_cmp_leq]; rfl, by simp only [VRel]; rw [fr_fle ha hb]; rfl⟩
  case gtr => cases h; exact ⟨_, 0, by rw [binOp_float_cmp_gtr]; rfl, by simp only [VRel]; rw [fr_flt hb ha, ← order_gt]; rfl⟩
  case geq => cases h; exact ⟨_, 0, by rw [binOp_float_cmp_geq]; rfl, by
    simp only [VRel]; rw [fr_fle hb ha]; unfold fle; rw [← order_gt, feq_comm]; rfl⟩
  all_goals cases h

theorem fields_of {t : TypeId} {fs : Array Field} (h : P.underlying t = some (.struct fs)) : P.fieldsOf t = fs := by
  simp [Program.fieldsOf, h]
theorem eqFields_run {d : Nat} {eq : TypeId → AV → AV → Option Bool} (heq : ∀ (u : TypeId) (a b : AV) (r : Bool) (va vb : Value) (w : World), eq u a b = some r → VRel ex μ a va → VRel ex μ b vb → (Op.equalIn d u va vb).run P w = .ok r w)
    {xs ys : List AV} {vx vy : Array Value} (hx : VRels ex μ xs vx.toList) (hy : VRels ex μ ys vy.toList) (w : World) : ∀ (fs : List Field) (r : Bool), eqA.eqFieldsA P eq xs ys fs = some r →
    (Op.eqFields d vx vy fs).run P w = .ok r w
  | [], r, h => by simp only [eqA.eqFieldsA, Option.some.injEq] at h; subst h; rfl
  | f :: fs, r, h => by
    simp only [eqA.eqFieldsA] at h
    obtain ⟨hn, h⟩ := cond_some' h rfl
    split at h
    · rename_i a b ha hb
      split at h
      · rename_i p q hp hq
        cases h
        obtain ⟨va, hva, ra⟩ := part_run w hx ha
        obtain ⟨vb, hvb, rb⟩ := part_run w hy hb
        simp only [Op.eqFields]
        rw [if_pos (by simpa using hn)]
        simp only [Sem.run_bind, hva, hvb, Result.andThen_ok, heq _ _ _ _ _ _ w hp ra rb, Sem.run_ite]
        cases p
        · simp
        · simp [eqFields_run heq hx hy w fs q hq]
      · cases h
    · cases h
theorem eqItems_run {d : Nat} {eq : TypeId → AV → AV → Option Bool} (heq : ∀ (u : TypeId) (a b : AV) (r : Bool) (va vb : Value) (w : World), eq u a b = some r → VRel ex μ a va → VRel ex μ b vb → (Op.equalIn d u va vb).run P w = .ok r w)
    {e : TypeId} {c : Nat} {xs ys : List AV} {vx vy : Array Value} (hx : VRels ex μ xs vx.toList) (hy : VRels ex μ ys vy.toList) (w : World) : ∀ (n i : Nat) (r : Bool), eqA.eqItemsA P eq e c xs ys n i = some r →
    (Op.eqItems d e c vx vy (List.range' i n)).run P w = .ok r w
  | 0, i, r, h => by simp only [eqA.eqItemsA, Option.some.injEq] at h; subst h; rfl
  | n + 1, i, r, h => by
    simp only [eqA.eqItemsA] at h
    split at h
    · rename_i a b ha hb
      split at h
      · rename_i p q hp hq
        cases h
        obtain ⟨va, hva, ra⟩ := part_run w hx ha
        obtain ⟨vb, hvb, rb⟩ := part_run w hy hb
        rw [List.range'_succ]
        simp only [Op.eqItems, Sem.run_bind, hva, hvb, Result.andThen_ok, heq _ _ _ _ _ _ w hp ra rb, Sem.run_ite]
        cases p
        · simp
        · simp [eqItems_run heq hx hy w n (i + 1) q hq]
      · cases h
    · cases h
theorem eq_run : ∀ (d D : Nat), d ≤ D → ∀ (t : TypeId) (a b : AV) (r : Bool) (va vb : Value) (w : World), eqA P d t a b = some r → VRel ex μ a va → VRel ex μ b vb →
    (Op.equalIn D t va vb).run P w = .ok r w
  | 0, _, _, _, _, _, _, _, _, _, h, _, _ => by simp [eqA] at h
  | d + 1, 0, hd, _, _, _, _, _, _, _, _, _, _ => by omega
  | d + 1, D + 1, hd, t, a, b, r, va, vb, w, h, ha, hb => by
    simp only [eqA] at h
    split at h
    · rename_i x y hu; simp only [VRel] at ha hb; subst ha; subst hb; cases h; exact run_equalIn_bool w D t x y hu
    · rename_i k x k' y hu
      simp only [VRel] at ha hb; subst ha; subst hb
      obtain ⟨hk, h2⟩ := cond_some h rfl
      clear h
      have hk := of_decide_eq_true hk; subst hk; cases h2
      rw [show ieq x y = (x == y) from rfl]
      exact run_equalIn_int w D t _ _ x y hu
    · rename_i x y hu
      simp only [VRel] at ha hb
      obtain ⟨p, rfl, hp⟩ := ha
      obtain ⟨q, rfl, hq⟩ := hb
      cases h
      rw [fr_feq hp hq]
      simp [Op.equalIn, run_underlying hu, Op.floatEq]; rfl
    · rename_i x x' y y' hu
      simp only [VRel] at ha hb
      obtain ⟨p, p', rfl, hp, hp'⟩ := ha
      obtain ⟨q, q', rfl, hq, hq'⟩ := hb
      cases h
      rw [fr_feq hp hq, fr_feq hp' hq']
      simp [Op.equalIn, run_underlying hu, Op.floatEq]; rfl
    · rename_i y hu
      simp only [VRel] at ha; subst ha
      cases h
      cases y with
      | none => simp only [VRel] at hb; subst hb; simp [Op.equalIn, run_underlying hu]
      | some p => simp only [VRel] at hb; obtain ⟨c, z, _, rfl⟩ := hb; simp [Op.equalIn, run_underlying hu]
    · rename_i p hu
      simp only [VRel] at ha hb; subst hb; obtain ⟨c, z, _, rfl⟩ := ha
      cases h
      simp [Op.equalIn, run_underlying hu]
    · rename_i hu
      simp only [VRel] at ha hb; subst ha; obtain ⟨u, rfl, _⟩ := hb
      cases h
      simp [Op.equalIn, run_underlying hu]
    · rename_i hu
      simp only [VRel] at ha hb; subst hb; obtain ⟨u, rfl, _⟩ := ha
      cases h
      simp [Op.equalIn, run_underlying hu]
    · rename_i y _ _ hu
      simp only [VRel] at ha; obtain ⟨_, _, rfl⟩ := ha
      cases h
      cases y with
      | none => simp only [VRel] at hb; obtain ⟨_, _, rfl⟩ := hb; simp [Op.equalIn, run_underlying hu]
      | some p => simp only [VRel] at hb; obtain ⟨c, z, _, rfl⟩ := hb; simp [Op.equalIn, run_underlying hu]
    · rename_i hu
      simp only [VRel] at ha hb; obtain ⟨_, _, rfl⟩ := hb; obtain ⟨c, z, _, rfl⟩ := ha
      cases h
      simp [Op.equalIn, run_underlying hu]
    · rename_i xs ys hu
      simp only [VRel] at ha hb; obtain ⟨vx, rfl, hx⟩ := ha; obtain ⟨vy, rfl, hy⟩ := hb
      obtain ⟨hs, h⟩ := cond_some' h rfl
      have hf := fields_of hu
      rw [run_equalIn_struct w D t vx vy (by rw [hf]; exact hu) hs, hf]
      exact eqFields_run (fun u a b r va vb w h ha hb => eq_run d D (by omega) u a b r va vb w h ha hb) hx hy w _ r h
    · rename_i n e xs ys hu
      simp only [VRel] at ha hb; obtain ⟨vx, rfl, hx⟩ := ha; obtain ⟨vy, rfl, hy⟩ := hb
      split at h
      · rename_i s hs
        unfold szT at hs
        split at hs
        · rename_i i hi
          cases hs
          rw [run_equalIn_array w D vx vy hu hi, show P.cellsOf e = i.size by simp [Program.cellsOf, hi], List.range_eq_range']
          exact eqItems_run (fun u a b r va vb w h ha hb => eq_run d D (by omega) u a b r va vb w h ha hb) hx hy w n 0 r h
        · cases hs
      · cases h
    · cases h
theorem equal_run (t : TypeId) (a b : AV) (r : Bool) (va vb : Value) (w : World) (h : eqA P 8 t a b = some r) (ha : VRel ex μ a va) (hb : VRel ex μ b vb) : (Op.equalIn 10000 t va vb).run P w = .ok r w :=
  eq_run 8 10000 (by omega) t a b r va vb w h ha hb

theorem eqTop_run (op : BinOp) (t : TypeId) (a b : AV) (ob : Ob) (r : AV) (va vb : Value) (w : World) (h : binA.eqTop P op t a b = some (ob, r)) (ha : VRel ex μ a va) (hb : VRel ex μ b vb)
    (he : ∀ x : Value × Value, x = (va, vb) → (binOp .eql t x.1 x.2 = (do pure (.bool (← Op.equal t x.1 x.2)) : Sem Value)) ∧ (binOp .neq t x.1 x.2 = (do pure (.bool (!(← Op.equal t x.1 x.2))) : Sem Value))) :
    ∃ v, (binOp op t va vb).run P w = .ok v w ∧ VRel ex μ r v := by
  obtain ⟨h1, h2⟩ := he (va, vb) rfl
  simp only at h1 h2
  cases op <;> simp only [binA.eqTop] at h <;> try (cases h; done)
  · split at h
    · rename_i q hq
      cases h
      refine ⟨.bool q, ?_, by simp only [VRel]⟩
      rw [h1]
      simp [Op.equal, Op.maxDepth, equal_run t a b q va vb w hq ha hb]
    · cases h
  · split at h
    · rename_i q hq
      cases h
      refine ⟨.bool (!q), ?_, by simp only [VRel]⟩
      rw [h2]
      simp [Op.equal, Op.maxDepth, equal_run t a b q va vb w hq ha hb]
    · cases h

theorem nil_run (op : BinOp) (t : TypeId) (n : Nat) (ob : Ob) (r : AV) (w : World) (h : nilA P op t n = some (ob, r)) (hok : ob.ok = true) (a : Option Addr) (cap : Nat) (ha : n = 0 ∨ a.isSome = true) :
    ∃ v, (binOp op t (.slice a n cap) (.slice none 0 0)).run P w = .ok v w ∧ VRel ex μ r v := by
  unfold nilA at h
  split at h
  · rename_i e hu
    have key : ∀ D, Nat.blt 0 n = true → (Op.equalIn (D + 1) t (.slice a n cap) (.slice none 0 0)).run P w = .ok false w := by
      intro D hn
      rcases ha with rfl | ha
      · cases hn
      · cases a with
        | none => cases ha
        | some a => simp [Op.equalIn, run_underlying hu]
    split at h
    · cases h
      refine ⟨.bool false, ?_, by simp only [VRel]⟩
      simp only [binOp, Op.equal, Sem.run_bind, show Op.maxDepth = 9999 + 1 from rfl, key 9999 hok, Result.andThen_ok, Sem.run_pure]
    · cases h
      refine ⟨.bool true, ?_, by simp only [VRel]⟩
      simp only [binOp, Op.equal, Sem.run_bind, show Op.maxDepth = 9999 + 1 from rfl, key 9999 hok, Result.andThen_ok, Sem.run_pure]; rfl
    · cases h
  · cases h

theorem bin_run (op : BinOp) (t : TypeId) (X Y : Operand) (a b : AV) (ob : Ob) (r : AV) (va vb : Value) (w : World) (h : binA P ex op t a b = some (ob, r)) (hok : ob.ok = true) (ha : VRel ex μ a va) (hb : VRel ex μ b vb) :
    ∃ v n, (do eqGuard op t X Y va vb; binOp op t va vb : Sem Value).run P w = .ok v { w with drawn := w.drawn + n } ∧ VRel ex μ r v := by
  unfold binA at h
  split at h
  · rename_i k x k' y
    simp only [VRel] at ha hb; subst ha; subst hb
    obtain ⟨v, h1, h2⟩ := int_run (P := P) (ex := ex) (μ := μ) t w op k k' x y ob r h hok
    exact ⟨v, 0, by rw [eqGuard_at_int, pure_bind]; exact h1, h2⟩
  · rename_i x y
    simp only [VRel] at ha hb
    obtain ⟨p, rfl, hp⟩ := ha
    obtain ⟨q, rfl, hq⟩ := hb
    obtain ⟨v, n, h1, h2⟩ := float_run (P := P) (μ := μ) t w op x y p q hp hq ob r h
    exact ⟨v, n, by rw [eqGuard_at_float, pure_bind]; exact h1, h2⟩
  · rename_i x x' y y'
    simp only [VRel] at ha hb
    obtain ⟨p, p', rfl, hp, hp'⟩ := ha
    obtain ⟨q, q', rfl, hq, hq'⟩ := hb
    split at h
    · cases h
      refine ⟨_, 0, by rw [eqGuard_at_complex, pure_bind]; exact run_eql_complex w t .f64 p p' q q', ?_⟩
      simp only [VRel]; rw [fr_feq hp hq, fr_feq hp' hq']; rfl
    · cases h
      refine ⟨_, 0, by rw [eqGuard_at_complex, pure_bind]; exact run_neq_complex w t .f64 p p' q q', ?_⟩
      simp only [VRel]; rw [fr_feq hp hq, fr_feq hp' hq']; rfl
    · cases h
  · rename_i xs ys
    obtain ⟨hg, h⟩ := cond_some' h rfl
    have ha' := ha
    have hb' := hb
    simp only [VRel] at ha hb; obtain ⟨vx, rfl, hx⟩ := ha; obtain ⟨vy, rfl, hy⟩ := hb
    have hgr := run_eqGuard_agg (P := P) w op t X Y vx vy hg
    split at h
    · split at h
      · rename_i q hq
        cases h
        refine ⟨.bool q, 0, ?_, by simp only [VRel]⟩
        rw [Sem.run_bind, hgr, Result.andThen_ok, run_eql_struct, equal_run t _ _ q _ _ w hq ha' hb']; rfl
      · cases h
    · split at h
      · rename_i q hq
        cases h
        refine ⟨.bool (!q), 0, ?_, by simp only [VRel]⟩
        rw [Sem.run_bind, hgr, Result.andThen_ok, run_neq_struct, equal_run t _ _ q _ _ w hq ha' hb']; rfl
      · cases h
    · cases h
  · rename_i x y
    have h3 := eqTop_run (P := P) op t _ _ ob r va vb w h ha hb
    simp only [VRel] at ha hb; subst ha; subst hb
    obtain ⟨v, h1, h2⟩ := h3 (by rintro ⟨_, _⟩ e; cases e; exact ⟨by simp [binOp], by simp [binOp]⟩)
    exact ⟨v, 0, by rw [eqGuard_at_bool, pure_bind]; exact h1, h2⟩
  · rename_i x y
    have h3 := eqTop_run (P := P) op t _ _ ob r va vb w h ha hb
    obtain ⟨p, rfl⟩ : ∃ p, va = .pointer p := by cases x <;> simp only [VRel] at ha <;> (first | exact ⟨_, ha⟩ | (obtain ⟨c, z, _, e⟩ := ha; exact ⟨_, e⟩))
    obtain ⟨q, rfl⟩ : ∃ p, vb = .pointer p := by cases y <;> simp only [VRel] at hb <;> (first | exact ⟨_, hb⟩ | (obtain ⟨c, z, _, e⟩ := hb; exact ⟨_, e⟩))
    obtain ⟨v, h1, h2⟩ := h3 (by rintro ⟨_, _⟩ e; cases e; exact ⟨by simp [binOp], by simp [binOp]⟩)
    exact ⟨v, 0, by rw [eqGuard_at_pointer, pure_bind]; exact h1, h2⟩
  · rename_i x _ _ y _ _
    have h3 := eqTop_run (P := P) op t _ _ ob r va vb w h ha hb
    obtain ⟨p, m, n, rfl⟩ : ∃ p m n, va = .slice p m n := by cases x <;> simp only [VRel] at ha <;> (first | (obtain ⟨_, _, e⟩ := ha; exact ⟨_, _, _, e⟩) | (obtain ⟨c, z, _, e⟩ := ha; exact ⟨_, _, _, e⟩))
    obtain ⟨q, m', n', rfl⟩ : ∃ p m n, vb = .slice p m n := by cases y <;> simp only [VRel] at hb <;> (first | (obtain ⟨_, _, e⟩ := hb; exact ⟨_, _, _, e⟩) | (obtain ⟨c, z, _, e⟩ := hb; exact ⟨_, _, _, e⟩))
    obtain ⟨v, h1, h2⟩ := h3 (by rintro ⟨_, _⟩ e; cases e; exact ⟨by simp [binOp], by simp [binOp]⟩)
    exact ⟨v, 0, by rw [eqGuard_at_slice, pure_bind]; exact h1, h2⟩
  · simp only [VRel] at ha hb
    obtain ⟨a, cap, rfl, _, h4⟩ := ha
    obtain ⟨rfl, rfl, rfl⟩ := hb
    split at h
    · rename_i hu
      cases h
      have key : ∀ D m, (Op.equalIn (D + 1) t (.slice a m cap) (.slice none 0 0)).run P w = .ok a.isNone w := by
        intro D m
        cases a <;> simp [Op.equalIn, run_underlying hu]
      refine ⟨.bool a.isNone, 0, ?_, by
        simp only [VRel]
        refine ⟨_, rfl, fun hn => ?_⟩
        rcases h4 with h4 | ⟨c, o, arr, t, fz, rfl, _⟩
        · exact h4
        · cases hn⟩
      rw [eqGuard_at_slice, pure_bind]
      simp only [binOp, Op.equal, Sem.run_bind, show Op.maxDepth = 9999 + 1 from rfl, key 9999, Result.andThen_ok, Sem.run_pure]; rfl
    · cases h
  · rename_i n _ _ _
    simp only [VRel] at ha hb
    obtain ⟨a, cap, rfl, h5, _, _, h4⟩ := ha
    obtain ⟨rfl, rfl, rfl⟩ := hb
    obtain ⟨v, h1, h2⟩ := nil_run (P := P) (ex := ex) (μ := μ) op t n ob r w h hok a cap (by
      rcases h4 with h4 | ⟨c, z, _, rfl, _⟩
      · exact .inl (by omega)
      · exact .inr rfl)
    exact ⟨v, 0, by rw [eqGuard_at_slice, pure_bind]; exact h1, h2⟩
  · have h3 := eqTop_run (P := P) op t _ _ ob r va vb w h ha hb
    simp only [VRel] at ha hb; subst hb; obtain ⟨u, rfl, _⟩ := ha
    obtain ⟨v, h1, h2⟩ := h3 (by rintro ⟨_, _⟩ e; cases e; exact ⟨by simp [binOp], by simp [binOp]⟩)
    exact ⟨v, 0, by rw [eqGuard_at_iface, pure_bind]; exact h1, h2⟩
  · have h3 := eqTop_run (P := P) op t _ _ ob r va vb w h ha hb
    simp only [VRel] at ha hb; subst ha; obtain ⟨u, rfl, _⟩ := hb
    obtain ⟨v, h1, h2⟩ := h3 (by rintro ⟨_, _⟩ e; cases e; exact ⟨by simp [binOp], by simp [binOp]⟩)
    exact ⟨v, 0, by rw [eqGuard_nil_iface, pure_bind]; exact h1, h2⟩
  · cases h

theorem un_run (op : UnOp) (a r : AV) (va : Value) (w : World) (h : unA ex op a = some r) (ha : VRel ex μ a va) :
    ∃ v, (Op.unary op va).run P w = .ok v w ∧ VRel ex μ r v := by
  unfold unA at h
  split at h
  · simp only [VRel] at ha; obtain ⟨p, rfl, hp⟩ := ha; cases h
    exact ⟨_, rfl, by simp only [VRel]; exact ⟨_, rfl, fr_neg hp⟩⟩
  · simp only [VRel] at ha; obtain ⟨p, q, rfl, hp, hq⟩ := ha; cases h
    exact ⟨_, rfl, by simp only [VRel]; exact ⟨_, _, rfl, fr_neg hp, fr_neg hq⟩⟩
  · simp only [VRel] at ha; subst ha; cases h
    exact ⟨_, rfl, by simp only [VRel]⟩
  · simp only [VRel] at ha; subst ha; cases h
    exact ⟨_, rfl, by simp only [VRel]⟩
  · cases h

theorem nan_nearest (n : Int) : nanb (FloatKind.f64.nearest n) = false := nanb_nearest _ _ _
theorem lt_nearest (n : Int) : FloatKind.f64.nearest n < 2 ^ 64 := Ieee.double.nearest_lt _ _ _
theorem conv_run (src dst : TypeId) (a r : AV) (va : Value) (w : World) (h : convA P src dst a = some r) (ha : VRel ex μ a va) :
    ∃ v, (convert src dst va).run P w = .ok v w ∧ VRel ex μ r v := by
  unfold convA at h
  split at h
  · rename_i d k _ n hs hd
    simp only [VRel] at ha; subst ha; cases h
    exact ⟨.int k (k.wrap n), by cases d <;> simp [convert, run_underlying hs, run_underlying hd, Conv.intToInt], by simp only [VRel]⟩
  · rename_i d _ n hs hd
    simp only [VRel] at ha; subst ha; cases h
    exact ⟨.float .f64 (FloatKind.f64.nearest n), by cases d <;> simp [convert, run_underlying hs, run_underlying hd, Conv.intToFloat], by simp only [VRel]; exact ⟨_, rfl, FR.const (nan_nearest n) (lt_nearest n)⟩⟩
  · rename_i d x hs hd
    simp only [VRel] at ha; obtain ⟨p, rfl, hp⟩ := ha; cases h
    exact ⟨.float .f64 p, by cases d <;> simp [convert, run_underlying hs, run_underlying hd, Conv.floatToFloat], by simp only [VRel]; exact ⟨_, rfl, hp⟩⟩
  · rename_i d x y hs hd
    simp only [VRel] at ha; obtain ⟨p, q, rfl, hp, hq⟩ := ha; cases h
    exact ⟨.complex .f64 p q, by cases d <;> simp [convert, run_underlying hs, run_underlying hd, Conv.complexToComplex, Conv.floatToFloat], by simp only [VRel]; exact ⟨_, _, rfl, hp, hq⟩⟩
  · cases h
end
end Go.Lst
