/- Contracts of functions that look at a float's bits: walked to the bit, then told up to which NaN. -/
import Derived.Test.YtbbopbelaamlaaaSimEnv
namespace Go.Sim
section
variable {P : Program} {Φ : Env} {N : Nat} {f : FuncId} {fn : Func}

def μ0 : Nat → Option Nat := fun _ => none
theorem h0 (ex : Bool) (w : World) : HRel ex μ0 [] w := ⟨fun i b c e _ => by simp at e, fun i j c e _ => (by cases e), fun i c e => (by cases e)⟩
theorem run_exact (hΦ : Φ.Ok P true) (hf : P.funcs[f]? = some fn) {args : List AV} {v : AV} (h : evFn P true Φ N fn args [] endP = some (v, [])) (ha : AV.flats args = true) (hv : v.flat = true) {vs : List Value} (hr : VRels true μ0 args vs) (w : World) :
    Calls P f vs.toArray w fun e w' => ∃ u, e = .returned u ∧ VRel true μ0 v u ∧ RowKit.Below w.heap.size w w' := by
  obtain ⟨v', H', hk, hS⟩ := evFn_sim hΦ hf h
  simp only [endP, Option.some.injEq, Prod.mk.injEq] at hk
  obtain ⟨rfl, _⟩ := hk
  exact Sim.pure hS ha hv [] _ vs w hr (h0 true w)

theorem exact1b (hΦ : Φ.Ok P true) (hf : P.funcs[f]? = some fn) (hc : ∀ (args : Array Value) (w : World), (callFunc f args).run P w = .ok (.enter f args) w) (spec : Nat → Bool) {S : List AV → Option AV}
    (hS : ∀ args v, S args = some v → ∃ a, args = [.float a] ∧ v = .bool (spec a)) (h : ∀ b, b < 2 ^ 64 → evFn P true Φ N fn [.float b] [] endP = some (.bool (spec (cn b)), [])) : ROk P false (f, pureF S) where
  call := hc
  sound := by
    intro args H k o ho
    simp only [pureF] at ho
    split at ho
    · rename_i v hv
      obtain ⟨a, rfl, rfl⟩ := hS args v hv
      refine ⟨_, ho, ?_⟩
      intro μ vs w hvs hH
      obtain ⟨u, r, rfl, h1, h2⟩ := hvs.uncons
      rw [VRels.nil_iff.1 h2]
      simp only [VRel] at h1
      obtain ⟨b, rfl, hb, hab⟩ := h1
      refine (run_exact hΦ hf (h b hb) rfl rfl (vs := [.float .f64 b]) (VRels.cons (by simp only [VRel]; exact ⟨b, rfl, hb, rfl⟩) VRels.nil) w).mono ?_
      rintro e w' ⟨u, rfl, hu, hw⟩
      refine ⟨u, rfl, ?_, hw⟩
      simp only [VRel] at hu ⊢
      rw [hu, show a = cn b from hab]
    · cases ho
theorem exact1f (hΦ : Φ.Ok P true) (hf : P.funcs[f]? = some fn) (hc : ∀ (args : Array Value) (w : World), (callFunc f args).run P w = .ok (.enter f args) w) (spec : Nat → Nat) {S : List AV → Option AV}
    (hS : ∀ args v, S args = some v → ∃ a, args = [.float a] ∧ v = .float (spec a)) (h : ∀ b, b < 2 ^ 64 → ∃ r, evFn P true Φ N fn [.float b] [] endP = some (.float r, []) ∧ cn r = spec (cn b)) : ROk P false (f, pureF S) where
  call := hc
  sound := by
    intro args H k o ho
    simp only [pureF] at ho
    split at ho
    · rename_i v hv
      obtain ⟨a, rfl, rfl⟩ := hS args v hv
      refine ⟨_, ho, ?_⟩
      intro μ vs w hvs hH
      obtain ⟨u, r, rfl, h1, h2⟩ := hvs.uncons
      rw [VRels.nil_iff.1 h2]
      simp only [VRel] at h1
      obtain ⟨b, rfl, hb, hab⟩ := h1
      obtain ⟨r, hr, hs⟩ := h b hb
      refine (run_exact hΦ hf hr rfl rfl (vs := [.float .f64 b]) (VRels.cons (by simp only [VRel]; exact ⟨b, rfl, hb, rfl⟩) VRels.nil) w).mono ?_
      rintro e w' ⟨u, rfl, hu, hw⟩
      refine ⟨u, rfl, ?_, hw⟩
      simp only [VRel] at hu ⊢
      obtain ⟨q, rfl, hq, hqr⟩ := hu
      have hqr : r = q := hqr
      subst hqr
      exact ⟨r, rfl, hq, by rw [show a = cn b from hab, ← hs]; rfl⟩
    · cases ho
theorem exact2f (hΦ : Φ.Ok P true) (hf : P.funcs[f]? = some fn) (hc : ∀ (args : Array Value) (w : World), (callFunc f args).run P w = .ok (.enter f args) w) (spec : Nat → Nat → Nat) {S : List AV → Option AV}
    (hS : ∀ args v, S args = some v → ∃ a c, args = [.float a, .float c] ∧ nanb c = false ∧ v = .float (spec a c)) (h : ∀ b d, b < 2 ^ 64 → d < 2 ^ 64 → nanb d = false → ∃ r, evFn P true Φ N fn [.float b, .float d] [] endP = some (.float r, []) ∧ cn r = spec (cn b) d) : ROk P false (f, pureF S) where
  call := hc
  sound := by
    intro args H k o ho
    simp only [pureF] at ho
    split at ho
    · rename_i v hv
      obtain ⟨a, c, rfl, hn, rfl⟩ := hS args v hv
      refine ⟨_, ho, ?_⟩
      intro μ vs w hvs hH
      obtain ⟨u, r, rfl, h1, h2⟩ := hvs.uncons
      obtain ⟨u2, r2, rfl, h3, h4⟩ := h2.uncons
      rw [VRels.nil_iff.1 h4]
      simp only [VRel] at h1 h3
      obtain ⟨b, rfl, hb, hab⟩ := h1
      obtain ⟨d, rfl, hd, hcd⟩ := h3
      have hcd : c = cn d := hcd
      have hnd : nanb d = false := by rw [hcd, nanb_cn] at hn; exact hn
      obtain ⟨r, hr, hs⟩ := h b d hb hd hnd
      refine (run_exact hΦ hf hr rfl rfl (vs := [.float .f64 b, .float .f64 d]) (VRels.cons (by simp only [VRel]; exact ⟨b, rfl, hb, rfl⟩) (VRels.cons (by simp only [VRel]; exact ⟨d, rfl, hd, rfl⟩) VRels.nil)) w).mono ?_
      rintro e w' ⟨u, rfl, hu, hw⟩
      refine ⟨u, rfl, ?_, hw⟩
      simp only [VRel] at hu ⊢
      obtain ⟨q, rfl, hq, hqr⟩ := hu
      have hqr : r = q := hqr
      subst hqr
      exact ⟨r, rfl, hq, by rw [show a = cn b from hab, hcd, cn_of_not hnd, ← hs]; rfl⟩
    · cases ho
end

theorem exact2b {P : Program} {Φ : Env} {N : Nat} {f : FuncId} {fn : Func} (hΦ : Φ.Ok P true) (hf : P.funcs[f]? = some fn) (hc : ∀ (args : Array Value) (w : World), (callFunc f args).run P w = .ok (.enter f args) w) (spec : Nat → Nat → Bool) {S : List AV → Option AV}
    (hS : ∀ args v, S args = some v → ∃ a c, args = [.float a, .float c] ∧ v = .bool (spec a c)) (h : ∀ b d, b < 2 ^ 64 → d < 2 ^ 64 → evFn P true Φ N fn [.float b, .float d] [] endP = some (.bool (spec (cn b) (cn d)), [])) : ROk P false (f, pureF S) where
  call := hc
  sound := by
    intro args H k o ho
    simp only [pureF] at ho
    split at ho
    · rename_i v hv
      obtain ⟨a, c, rfl, rfl⟩ := hS args v hv
      refine ⟨_, ho, ?_⟩
      intro μ vs w hvs hH
      obtain ⟨u, r, rfl, h1, h2⟩ := hvs.uncons
      obtain ⟨u2, r2, rfl, h3, h4⟩ := h2.uncons
      rw [VRels.nil_iff.1 h4]
      simp only [VRel] at h1 h3
      obtain ⟨b, rfl, hb, hab⟩ := h1
      obtain ⟨d, rfl, hd, hcd⟩ := h3
      refine (run_exact hΦ hf (h b d hb hd) rfl rfl (vs := [.float .f64 b, .float .f64 d]) (VRels.cons (by simp only [VRel]; exact ⟨b, rfl, hb, rfl⟩) (VRels.cons (by simp only [VRel]; exact ⟨d, rfl, hd, rfl⟩) VRels.nil)) w).mono ?_
      rintro e w' ⟨u, rfl, hu, hw⟩
      refine ⟨u, rfl, ?_, hw⟩
      simp only [VRel] at hu ⊢
      rw [hu, show a = cn b from hab, show c = cn d from hcd]
    · cases ho

/-! ### The bits -/
theorem wrap_u64 (n : Int) : IntKind.u64.wrap n = n % 18446744073709551616 := by
  simp [IntKind.wrap, IntKind.signed, IntKind.bits]
theorem toNat_u64 {b : Nat} (hb : b < 18446744073709551616) : ((b : Int) % 18446744073709551616).toNat = b := by omega
theorem shr52 (b : Nat) : ((b : Int).fdiv 4503599627370496) = ((b / 4503599627370496 : Nat) : Int) := (Int.ofNat_fdiv b 4503599627370496).symm
theorem nanb_mod63 (b : Nat) : nanb (b % 9223372036854775808) = nanb b := nanb_mod (by omega)
def fabs (a : Nat) : Nat := cn (a % 9223372036854775808)
theorem fabs_cn (b : Nat) : fabs (cn b) = cn (b % 9223372036854775808) := by
  unfold fabs
  cases h : nanb b
  · rw [cn_of_not h]
  · rw [cn_of_nan h, cn_of_nan (b := b % 9223372036854775808) (by rw [nanb_mod63, h]), cn_of_nan (by rw [nanb_mod63]; exact nanb_qnan)]
/-- Copysign, where the sign's float is a number. -/
def fcps (a c : Nat) : Nat := cn (a % 9223372036854775808 + c / 9223372036854775808 * 9223372036854775808)
theorem and_mask63 (n : Nat) : n &&& 9223372036854775807 = n % 9223372036854775808 := Nat.and_two_pow_sub_one_eq_mod n 63
theorem and_mask11 (n : Nat) : n &&& 2047 = n % 2048 := Nat.and_two_pow_sub_one_eq_mod n 11
theorem nanb_iff {b : Nat} : nanb b = (decide (b / 4503599627370496 % 2048 = 2047) && decide (b % 4503599627370496 ≠ 0)) := by
  have hs : Ieee.double.signWeight = 9223372036854775808 := by decide
  have hb : Ieee.double.binade = 4503599627370496 := by decide
  have hi : Ieee.double.infRung = 9218868437227405312 := by decide
  unfold nanb Ieee.Format.read
  simp only [hs, hb, hi]
  split
  · rename_i h1
    show false = _
    symm
    rw [Bool.and_eq_false_iff]
    exact .inl (by simp only [decide_eq_false_iff_not]; omega)
  · split
    · rename_i h1 h2
      show false = _
      symm
      rw [Bool.and_eq_false_iff]
      exact .inl (by simp only [decide_eq_false_iff_not]; omega)
    · split
      · rename_i h1 h2 h3
        show false = _
        symm
        rw [Bool.and_eq_false_iff]
        exact .inr (by simp only [decide_eq_false_iff_not]; omega)
      · rename_i h1 h2 h3
        show true = _
        symm
        rw [Bool.and_eq_true]
        exact ⟨by simp only [decide_eq_true_eq]; omega, by simp only [decide_eq_true_eq]; omega⟩
theorem none_tree {b : Nat} (hb : b < 2 ^ 64) :
    (bif ieq (IntKind.u64.wrap ↑(((↑b : Int).fdiv 4503599627370496 % 18446744073709551616).toNat &&& 2047)) 2047 then endP (AV.bool (!ieq (IntKind.u64.wrap (↑b * 4096)) 0)) [] else endP (AV.bool false) []) = some (AV.bool (nanb (cn b)), []) := by
  have hb' : b < 18446744073709551616 := hb
  have e1 : ieq (IntKind.u64.wrap ↑(((↑b : Int).fdiv 4503599627370496 % 18446744073709551616).toNat &&& 2047)) 2047 = decide (b / 4503599627370496 % 2048 = 2047) := by
    rw [shr52, toNat_u64 (by omega), and_mask11, wrap_u64]
    unfold ieq
    congr 1
    apply propext
    omega
  have e2 : (!ieq (IntKind.u64.wrap (↑b * 4096)) 0) = decide (b % 4503599627370496 ≠ 0) := by
    rw [wrap_u64]
    unfold ieq
    by_cases h : b % 4503599627370496 = 0
    · have h1 : (b : Int) * 4096 % 18446744073709551616 = 0 := by omega
      simp [h1, h]
    · have h1 : ¬ (b : Int) * 4096 % 18446744073709551616 = 0 := by omega
      simp [h1, h]
  rw [e1, e2, nanb_cn, nanb_iff]
  cases decide (b / 4503599627370496 % 2048 = 2047) <;> rfl
theorem abs_tree {b : Nat} (hb : b < 2 ^ 64) : (bif (((↑b % 18446744073709551616 : Int).toNat &&& 9223372036854775807) % 18446744073709551616).blt 18446744073709551616 then endP (AV.float (IntKind.u64.wrap ↑((↑b % 18446744073709551616 : Int).toNat &&& 9223372036854775807)).toNat) [] else none) = some (.float (b % 9223372036854775808), []) := by
  have hb' : b < 18446744073709551616 := hb
  rw [toNat_u64 hb', and_mask63, wrap_u64]
  have e1 : (b % 9223372036854775808 % 18446744073709551616).blt 18446744073709551616 = true := by rw [Nat.blt_eq]; omega
  have e2 : ((↑(b % 9223372036854775808) : Int) % 18446744073709551616).toNat = b % 9223372036854775808 := by omega
  rw [e1, e2]; rfl
theorem xor_tree {b : Nat} (hb : b < 2 ^ 64) : (bif (((↑b % 18446744073709551616 : Int).toNat ^^^ 9223372036854775808) % 18446744073709551616).blt 18446744073709551616 then endP (AV.float (IntKind.u64.wrap ↑((↑b % 18446744073709551616 : Int).toNat ^^^ 9223372036854775808)).toNat) [] else none) = some (.float (Op.negFloat .f64 b), []) := by
  have hb' : b < 18446744073709551616 := hb
  have hx : b ^^^ 9223372036854775808 < 18446744073709551616 := xor_lt hb
  rw [toNat_u64 hb', wrap_u64]
  have e1 : ((b ^^^ 9223372036854775808) % 18446744073709551616).blt 18446744073709551616 = true := by rw [Nat.blt_eq]; omega
  have e2 : ((↑(b ^^^ 9223372036854775808) : Int) % 18446744073709551616).toNat = b ^^^ 9223372036854775808 := by omega
  rw [e1, e2]; rfl
theorem and_top (n : Nat) (h : n < 18446744073709551616) : n &&& 9223372036854775808 = n / 9223372036854775808 * 9223372036854775808 := by
  apply Nat.eq_of_testBit_eq
  intro i
  rw [Nat.testBit_and, show (9223372036854775808 : Nat) = 2 ^ 63 from rfl, Nat.testBit_two_pow, Nat.mul_comm, Nat.testBit_two_pow_mul, Nat.testBit_div_two_pow]
  by_cases h1 : 63 ≤ i
  · by_cases h2 : i = 63
    · subst h2; simp
    · have h3 : n.testBit i = false := Nat.testBit_lt_two_pow (Nat.lt_of_lt_of_le h (by rw [show (18446744073709551616 : Nat) = 2 ^ 64 from rfl]; exact Nat.pow_le_pow_right (by omega) (by omega)))
      simp [h1, h3, Nat.sub_add_cancel h1]
  · have : ¬ 63 = i := by omega
    simp [h1, this]
theorem or_parts (x y : Nat) (hx : x < 9223372036854775808) : x ||| y * 9223372036854775808 = x + y * 9223372036854775808 := by
  rw [Nat.or_comm, Nat.mul_comm, Nat.add_comm]
  exact (Nat.two_pow_add_eq_or_of_lt (i := 63) hx y).symm
theorem cps_tree {b c : Nat} (hb : b < 2 ^ 64) (hc : c < 2 ^ 64) : (bif (((IntKind.u64.wrap ↑((↑b % 18446744073709551616 : Int).toNat &&& 9223372036854775807) % 18446744073709551616).toNat ||| (IntKind.u64.wrap ↑((↑c % 18446744073709551616 : Int).toNat &&& 9223372036854775808) % 18446744073709551616).toNat) % 18446744073709551616).blt 18446744073709551616 then endP (AV.float (IntKind.u64.wrap ↑((IntKind.u64.wrap ↑((↑b % 18446744073709551616 : Int).toNat &&& 9223372036854775807) % 18446744073709551616).toNat ||| (IntKind.u64.wrap ↑((↑c % 18446744073709551616 : Int).toNat &&& 9223372036854775808) % 18446744073709551616).toNat)).toNat) [] else none) = some (.float (b % 9223372036854775808 + c / 9223372036854775808 * 9223372036854775808), []) := by
  have hb' : b < 18446744073709551616 := hb
  have hc' : c < 18446744073709551616 := hc
  rw [toNat_u64 hb', toNat_u64 hc', and_mask63, and_top c hc']
  have e3 : (IntKind.u64.wrap ↑(b % 9223372036854775808) % 18446744073709551616).toNat = b % 9223372036854775808 := by rw [wrap_u64]; omega
  have e4 : (IntKind.u64.wrap ↑(c / 9223372036854775808 * 9223372036854775808) % 18446744073709551616).toNat = c / 9223372036854775808 * 9223372036854775808 := by rw [wrap_u64]; omega
  rw [e3, e4, or_parts _ _ (by omega), wrap_u64]
  have e1 : ((b % 9223372036854775808 + c / 9223372036854775808 * 9223372036854775808) % 18446744073709551616).blt 18446744073709551616 = true := by rw [Nat.blt_eq]; omega
  have e2 : ((↑(b % 9223372036854775808 + c / 9223372036854775808 * 9223372036854775808) : Int) % 18446744073709551616).toNat = b % 9223372036854775808 + c / 9223372036854775808 * 9223372036854775808 := by omega
  rw [e1, e2]; rfl
theorem cps_cn {b d : Nat} : cn (b % 9223372036854775808 + d / 9223372036854775808 * 9223372036854775808) = fcps (cn b) d := by
  unfold fcps
  have hm : ∀ x, nanb (x % 9223372036854775808 + d / 9223372036854775808 * 9223372036854775808) = nanb x := fun x => nanb_mod (by omega)
  cases h : nanb b
  · rw [cn_of_not h]
  · rw [cn_of_nan h, cn_of_nan (by rw [hm, h]), cn_of_nan (by rw [hm]; exact nanb_qnan)]

/-- The same float: the same bits, or both no numbers. -/
def fsame (a c : Nat) : Bool := bif nanb a then nanb c else decide (a = c)
theorem same_tree (b d : Nat) : (bif !ieq (b : Int) (d : Int) then bif !feq b b then endP (AV.bool (!feq d d)) [] else endP (AV.bool false) [] else endP (AV.bool true) []) = some (.bool (fsame (cn b) (cn d)), []) := by
  have hi : ieq (b : Int) (d : Int) = decide (b = d) := by
    unfold ieq
    by_cases h : b = d
    · subst h; simp
    · have : ¬ ((b : Int) = (d : Int)) := by omega
      simp [h, this]
  unfold fsame
  rw [nanb_cn, nanb_cn, hi, feq_self, feq_self]
  by_cases h : b = d
  · subst h; cases nanb b <;> simp <;> rfl
  · have hd : decide (b = d) = false := by simp [h]
    rw [hd]
    cases nb : nanb b
    · cases nd : nanb d
      · rw [cn_of_not nb, cn_of_not nd, hd]; rfl
      · rw [cn_of_not nb, cn_of_nan nd]
        have : ¬ b = qnan := fun e => by rw [e, nanb_qnan] at nb; cases nb
        have hq : decide (b = qnan) = false := by simp [this]
        rw [hq]; rfl
    · cases nanb d <;> rfl
end Go.Sim
