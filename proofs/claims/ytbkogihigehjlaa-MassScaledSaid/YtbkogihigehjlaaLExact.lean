/- Contracts of functions that look at a float's bits: evaluated to the bit, then told up to which NaN. -/
import Derived.Test.YtbkogihigehjlaaLClone
import Derived.Test.YtbkogihigehjlaaSimBits
namespace Go.Lst
open Go.Sim (FR nanb cn cn_of_not cn_of_nan nanb_cn qnan nanb_qnan fneg fabs fcps fsame wrap_u64 toNat_u64 shr52 nanb_mod63 and_mask63 and_mask11 nanb_iff and_top or_parts fabs_cn cps_cn CF CF.cn)
section
variable {P : Program} {M : EnvM} {N : Nat} {A : Ann} {f : FuncId} {fn : Func} {lits fk : List Tmp}
theorem run_exact (hM : M.Ok P true) (hf : P.funcs[f]? = some fn) (hA : FnOk P true 0 fn A) {args : List AV} {v : AV} (h : outB (evFnM P true M lits fk N A fn args []) = some (true, v)) (hv : v.flat = true) {vs : List Value} {μ : Mu} {w : World} (ha : VRels true (still w) args vs) :
    Calls P f vs.toArray w fun e w' => ∃ u, e = .returned u ∧ VRel true μ v u ∧ RowKit.Below w.heap.size w w' := by
  obtain ⟨o, G, d, h1, h2⟩ := outB_some h
  refine (evFnM_sim hM hf hA h1 (Nat.le_refl _) h2 (still w) vs w ha (still_rel true w) (still_dom w)).mono ?_
  rintro e w' ⟨v', μ', rfl, hr, g, _⟩
  exact ⟨v', rfl, VRel.flat _ _ hv hr, g.below fun _ _ => rfl⟩
def pureS (S : List AV → Option AV) : SFM := fun args => match S args with | some v => some (.tt, v, []) | none => none
theorem exact1 (hM : M.Ok P true) (hf : P.funcs[f]? = some fn) (hA : FnOk P true 0 fn A) (hc : ∀ (args : Array Value) (w : World), (callFunc f args).run P w = .ok (.enter f args) w) {S : List AV → Option AV} (R : Nat → AV → Prop)
    (hS : ∀ args v, S args = some v → ∃ a, args = [.float a] ∧ R a v) (h : ∀ b v, b < 2 ^ 64 → R (cn b) v → ∃ u, outB (evFnM P true M lits fk N A fn [.float b] []) = some (true, u) ∧ u.flat = true ∧ ∀ μ x, VRel true μ u x → VRel false μ v x) : SOkM P false (f, pureS S) where
  call := hc
  sound := by
    intro args o v G hv ho
    simp only [pureS] at hv
    split at hv
    · rename_i v' hv'
      cases hv
      obtain ⟨a, rfl, hr⟩ := hS args _ hv'
      intro μ vs w hvs hH hd
      obtain ⟨u, r, rfl, h1, h2⟩ := hvs.uncons
      rw [VRels.nil_iff.1 h2]
      simp only [VRel] at h1
      obtain ⟨b, rfl, hb, hab⟩ := h1
      have hab : a = cn b := hab
      rw [hab] at hr
      obtain ⟨u, hu, hf1, hu2⟩ := h b _ hb hr
      refine (run_exact (μ := μ) hM hf hA hu hf1 (vs := [.float .f64 b]) (VRels.cons (by simp only [VRel]; exact ⟨b, rfl, hb, rfl⟩) VRels.nil)).mono ?_
      rintro e w' ⟨x, rfl, hx, hw⟩
      exact ⟨x, μ, rfl, hu2 _ _ hx, Goes.of_below hH hw, hd⟩
    · cases hv
theorem exact2 (hM : M.Ok P true) (hf : P.funcs[f]? = some fn) (hA : FnOk P true 0 fn A) (hc : ∀ (args : Array Value) (w : World), (callFunc f args).run P w = .ok (.enter f args) w) {S : List AV → Option AV} (R : Nat → Nat → AV → Prop)
    (hS : ∀ args v, S args = some v → ∃ a c, args = [.float a, .float c] ∧ R a c v) (h : ∀ b d v, b < 2 ^ 64 → d < 2 ^ 64 → R (cn b) (cn d) v → ∃ u, outB (evFnM P true M lits fk N A fn [.float b, .float d] []) = some (true, u) ∧ u.flat = true ∧ ∀ μ x, VRel true μ u x → VRel false μ v x) : SOkM P false (f, pureS S) where
  call := hc
  sound := by
    intro args o v G hv ho
    simp only [pureS] at hv
    split at hv
    · rename_i v' hv'
      cases hv
      obtain ⟨a, c, rfl, hr⟩ := hS args _ hv'
      intro μ vs w hvs hH hd
      obtain ⟨u, r, rfl, h1, h2⟩ := hvs.uncons
      obtain ⟨u2, r2, rfl, h3, h4⟩ := h2.uncons
      rw [VRels.nil_iff.1 h4]
      simp only [VRel] at h1 h3
      obtain ⟨b, rfl, hb, hab⟩ := h1
      obtain ⟨d, rfl, hd', hcd⟩ := h3
      have hab : a = cn b := hab
      have hcd : c = cn d := hcd
      rw [hab, hcd] at hr
      obtain ⟨u, hu, hf1, hu2⟩ := h b d _ hb hd' hr
      refine (run_exact (μ := μ) hM hf hA hu hf1 (vs := [.float .f64 b, .float .f64 d]) (VRels.cons (by simp only [VRel]; exact ⟨b, rfl, hb, rfl⟩) (VRels.cons (by simp only [VRel]; exact ⟨d, rfl, hd', rfl⟩) VRels.nil))).mono ?_
      rintro e w' ⟨x, rfl, hx, hw⟩
      exact ⟨x, μ, rfl, hu2 _ _ hx, Goes.of_below hH hw, hd⟩
    · cases hv
end

theorem flat_float (x : Nat) : (AV.float x).flat = true := rfl
theorem flat_bool (x : Bool) : (AV.bool x).flat = true := rfl
theorem toFloat {μ : Mu} {r s : Nat} {x : Value} (h : VRel true μ (.float r) x) (hs : cn r = s) : VRel false μ (.float s) x := by
  simp only [VRel] at h ⊢
  obtain ⟨q, rfl, hq, hqr⟩ := h
  have hqr : r = q := hqr
  subst hqr
  exact ⟨r, rfl, hq, hs.symm⟩
theorem toBool {μ : Mu} {r s : Bool} {x : Value} (h : VRel true μ (.bool r) x) (hs : r = s) : VRel false μ (.bool s) x := by
  subst hs; simpa only [VRel] using h
/-! ### None, Abs, Turned, Copysign, SameFloat -/
def noneV (b : Nat) : Bool := cond (ieq (IntKind.u64.wrap ↑(((↑b : Int).fdiv 4503599627370496 % 18446744073709551616).toNat &&& 2047)) 2047) (!ieq (IntKind.u64.wrap (↑b * 4096)) 0) false
theorem none_val {b : Nat} (hb : b < 2 ^ 64) : noneV b = nanb (cn b) := by
  have hb' : b < 18446744073709551616 := hb
  have e1 : ieq (IntKind.u64.wrap ↑(((↑b : Int).fdiv 4503599627370496 % 18446744073709551616).toNat &&& 2047)) 2047 = decide (b / 4503599627370496 % 2048 = 2047) := by
    rw [shr52, toNat_u64 (by omega), and_mask11, wrap_u64]
    unfold ieq
    congr 1
    apply propext
    omega
  have e2 : (!ieq (IntKind.u64.wrap (↑b * 4096)) 0) = decide (b % 4503599627370496 ≠ 0) := by
    rw [wrap_u64]
    unfold ieq
    by_cases h : b % 4503599627370496 = 0
    · have h1 : (b : Int) * 4096 % 18446744073709551616 = 0 := by omega
      simp [h1, h]
    · have h1 : ¬ (b : Int) * 4096 % 18446744073709551616 = 0 := by omega
      simp [h1, h]
  unfold noneV
  rw [e1, e2, nanb_cn, nanb_iff]
  cases decide (b / 4503599627370496 % 2048 = 2047) <;> rfl
def absN (b : Nat) : Nat := (((b : Int) % 18446744073709551616).toNat &&& 9223372036854775807)
def absV (b : Nat) : Nat := (IntKind.u64.wrap ((((b : Int) % 18446744073709551616).toNat &&& 9223372036854775807 : Nat) : Int)).toNat
def absOb (b : Nat) : Bool := u64ok (IntKind.u64.wrap ((((b : Int) % 18446744073709551616).toNat &&& 9223372036854775807 : Nat) : Int))
theorem u64ok_wrap (n : Nat) : u64ok (IntKind.u64.wrap (n : Int)) = true := by
  rw [wrap_u64]
  have : ((n : Int) % 18446744073709551616) = ((n % 18446744073709551616 : Nat) : Int) := by omega
  rw [this]
  show u64ok (Int.ofNat _) = true
  simp only [u64ok, Nat.blt_eq]
  omega
theorem abs_ob (b : Nat) : absOb b = true := u64ok_wrap _
theorem abs_val {b : Nat} (hb : b < 2 ^ 64) : absV b = b % 9223372036854775808 := by
  have hb' : b < 18446744073709551616 := hb
  unfold absV
  rw [toNat_u64 hb', and_mask63, wrap_u64]; omega
def xorV (b : Nat) : Nat := (IntKind.u64.wrap ((((b : Int) % 18446744073709551616).toNat ^^^ 9223372036854775808 : Nat) : Int)).toNat
def xorOb (b : Nat) : Bool := u64ok (IntKind.u64.wrap ((((b : Int) % 18446744073709551616).toNat ^^^ 9223372036854775808 : Nat) : Int))
theorem xor_ob (b : Nat) : xorOb b = true := u64ok_wrap _
theorem xor_val {b : Nat} (hb : b < 2 ^ 64) : xorV b = Op.negFloat .f64 b := by
  have hb' : b < 18446744073709551616 := hb
  have hx : b ^^^ 9223372036854775808 < 18446744073709551616 := Go.Sim.xor_lt hb
  unfold xorV
  rw [toNat_u64 hb', wrap_u64]
  have e2 : ((↑(b ^^^ 9223372036854775808) : Int) % 18446744073709551616).toNat = b ^^^ 9223372036854775808 := by omega
  rw [e2]; rfl
def cpsI (b c : Nat) : Int := IntKind.u64.wrap (((IntKind.u64.wrap ((((b : Int) % 18446744073709551616).toNat &&& 9223372036854775807 : Nat) : Int) % 18446744073709551616).toNat ||| (IntKind.u64.wrap ((((c : Int) % 18446744073709551616).toNat &&& 9223372036854775808 : Nat) : Int) % 18446744073709551616).toNat : Nat) : Int)
theorem cps_ob (b c : Nat) : u64ok (cpsI b c) = true := u64ok_wrap _
theorem cps_val {b c : Nat} (hb : b < 2 ^ 64) (hc : c < 2 ^ 64) : (cpsI b c).toNat = b % 9223372036854775808 + c / 9223372036854775808 * 9223372036854775808 := by
  have hb' : b < 18446744073709551616 := hb
  have hc' : c < 18446744073709551616 := hc
  unfold cpsI
  rw [toNat_u64 hb', toNat_u64 hc', and_mask63, and_top c hc']
  have e3 : (IntKind.u64.wrap ↑(b % 9223372036854775808) % 18446744073709551616).toNat = b % 9223372036854775808 := by rw [wrap_u64]; omega
  have e4 : (IntKind.u64.wrap ↑(c / 9223372036854775808 * 9223372036854775808) % 18446744073709551616).toNat = c / 9223372036854775808 * 9223372036854775808 := by rw [wrap_u64]; omega
  rw [e3, e4, or_parts _ _ (by omega), wrap_u64]
  omega
theorem not_nan_cn {d : Nat} (h : nanb (cn d) = false) : cn d = d := by rw [nanb_cn] at h; exact cn_of_not h
def sameV (b d : Nat) : Bool := cond (ieq (b : Int) (d : Int)) true (cond (!Go.Sim.feq b b) (!Go.Sim.feq d d) false)
theorem same_val (b d : Nat) : sameV b d = fsame (cn b) (cn d) := by
  have hi : ieq (b : Int) (d : Int) = decide (b = d) := by
    unfold ieq
    by_cases h : b = d
    · subst h; simp
    · have : ¬ ((b : Int) = (d : Int)) := by omega
      simp [h, this]
  unfold sameV fsame
  rw [nanb_cn, nanb_cn, hi, Go.Sim.feq_self, Go.Sim.feq_self]
  by_cases h : b = d
  · subst h; cases nanb b <;> simp
  · have hd : decide (b = d) = false := by simp [h]
    rw [hd]
    cases nb : nanb b
    · cases nd : nanb d
      · rw [cn_of_not nb, cn_of_not nd, hd]; rfl
      · rw [cn_of_not nb, cn_of_nan nd]
        have : ¬ b = qnan := fun e => by rw [e, nanb_qnan] at nb; cases nb
        have hq : decide (b = qnan) = false := by simp [this]
        rw [hq]; rfl
    · cases nanb d <;> rfl
end Go.Lst
