/- Arguments of a row, opened cell by cell. -/
import GoSem.ClaimWide
import Derived.Test.YtbbopbelaamlaaaSimExact
namespace Go.Sim
section
variable {P : Program} {w : World} {base : Nat}

def CellsOk (P : Program) (w : World) (base : Nat) : List TypeId → List Value → Prop
  | [], vs => vs = []
  | t :: ts, vs => ∃ v r, vs = v :: r ∧ Cell.okWide P w .any base t v ∧ CellsOk P w base ts r
theorem cellsOk_of : ∀ (ts : List TypeId) (vs : List Value), vs.length = ts.length → (∀ (i : Nat) (v : Value), vs[i]? = some v → ∃ u, ts[i]? = some u ∧ Cell.okWide P w .any base u v) → CellsOk P w base ts vs
  | [], vs, h, _ => List.length_eq_zero_iff.1 h
  | t :: ts, [], h, _ => by simp at h
  | t :: ts, v :: vs, h, hg => by
    obtain ⟨u, hu, hk⟩ := hg 0 v rfl
    simp at hu
    refine ⟨v, vs, rfl, by rw [hu]; exact hk, cellsOk_of ts vs (by simpa using h) fun i x hx => ?_⟩
    obtain ⟨u', h1, h2⟩ := hg (i + 1) x (by simpa using hx)
    exact ⟨u', by simpa using h1, h2⟩
theorem open_agg {t : TypeId} {ts : List TypeId} {d : TypeDesc} {v : Value} (hu : P.underlying t = some d) (hd : aggD d = true) (hts : P.cellTypes P.depth t = some ts) (hc : P.cellsOf t = ts.length) (h : Value.okWide P w .any base t v) :
    ∃ cs, v = .agg cs ∧ CellsOk P w base ts cs.toList := by
  have key : ∃ cs, v = .agg cs ∧ cs.size = P.cellsOf t ∧ Row.okWide P w .any base t cs := by
    unfold Value.okWide at h
    rw [hu] at h
    cases d <;> first | (cases hd; done) | exact h
  obtain ⟨cs, rfl, hs, ts', h1, _, h2⟩ := key
  rw [hts] at h1; cases h1
  refine ⟨cs, rfl, cellsOk_of ts cs.toList (by simp [hs, hc]) fun i v hv => ?_⟩
  have hv' : cs[i]? = some v := by simpa using hv
  obtain ⟨u, h3, h4⟩ := h2 i v hv'
  have hi : i < ts.length := by
    have := (Array.getElem?_eq_some_iff.1 hv').1
    omega
  rw [Nat.mod_eq_of_lt hi] at h3
  exact ⟨u, h3, h4⟩
theorem val_cell {t : TypeId} {d : TypeDesc} {v : Value} (hu : P.underlying t = some d) (hd : aggD d = false) (h : Value.okWide P w .any base t v) : Cell.okWide P w .any base t v := by
  unfold Value.okWide at h
  rw [hu] at h
  cases d <;> first | (cases hd; done) | exact h
theorem cell_int {t : TypeId} {k : IntKind} {v : Value} (hu : P.underlying t = some (.int k)) (h : Cell.okWide P w .any base t v) : ∃ n, v = .int k n ∧ k.min ≤ n ∧ n ≤ k.max := by
  simp only [Cell.okWide, hu, Cell.ok] at h
  cases v <;> simp only [IntKind.has] at h
  case int k' n => obtain ⟨rfl, h1, h2⟩ := h; exact ⟨n, rfl, h1, h2⟩
theorem cell_nat {t : TypeId} {k : IntKind} {v : Value} (hu : P.underlying t = some (.int k)) (hk : k.min = 0) (h : Cell.okWide P w .any base t v) : ∃ m : Nat, v = .int k (Int.ofNat m) ∧ Int.ofNat m ≤ k.max := by
  obtain ⟨n, rfl, h1, h2⟩ := cell_int hu h
  rw [hk] at h1
  exact ⟨n.toNat, by rw [show Int.ofNat n.toNat = n from Int.toNat_of_nonneg h1], by rw [show Int.ofNat n.toNat = n from Int.toNat_of_nonneg h1]; exact h2⟩
theorem cell_u64 {t : TypeId} {v : Value} (hu : P.underlying t = some (.int .u64)) (h : Cell.okWide P w .any base t v) : ∃ m : Nat, v = .int .u64 (Int.ofNat m) ∧ m < 18446744073709551616 := by
  obtain ⟨n, rfl, h1, h2⟩ := cell_int hu h
  have h1' : 0 ≤ n := h1
  have h2' : n ≤ 18446744073709551615 := h2
  obtain ⟨m, rfl⟩ := Int.eq_ofNat_of_zero_le h1'
  exact ⟨m, rfl, by omega⟩
theorem cell_float {t : TypeId} {v : Value} (hu : P.underlying t = some (.float .f64)) (h : Cell.okWide P w .any base t v) : ∃ b : Nat, v = .float .f64 b ∧ b < 2 ^ 64 := by
  simp only [Cell.okWide, hu, Cell.ok] at h
  cases v <;> simp only at h
  case float k b => obtain ⟨rfl, h1⟩ := h; exact ⟨b, rfl, h1⟩
theorem cell_bool {t : TypeId} {v : Value} (hu : P.underlying t = some .bool) (h : Cell.okWide P w .any base t v) : ∃ b, v = .bool b := by
  simp only [Cell.okWide, hu, Cell.ok] at h
  cases v <;> simp only at h
  case bool b => exact ⟨b, rfl⟩
/-- A float as the laws see it. -/
def CF (a : Nat) : Prop := a < 2 ^ 64 ∧ (nanb a = true → a = qnan)
theorem CF.cn {b : Nat} (h : b < 2 ^ 64) : CF (cn b) := ⟨cn_lt h, fun hn => by rw [nanb_cn] at hn; exact cn_of_nan hn⟩
theorem rel_int {ex : Bool} {μ : Nat → Option Nat} (k : IntKind) (n : Int) : VRel ex μ (.int k n) (.int k n) := by simp only [VRel]
theorem rel_bool {ex : Bool} {μ : Nat → Option Nat} (b : Bool) : VRel ex μ (.bool b) (.bool b) := by simp only [VRel]
theorem rel_float {μ : Nat → Option Nat} {b : Nat} (h : b < 2 ^ 64) : VRel false μ (.float (cn b)) (.float .f64 b) := by simp only [VRel]; exact ⟨b, rfl, h, rfl⟩
theorem rel_agg {ex : Bool} {μ : Nat → Option Nat} {l : List AV} {cs : Array Value} {vs : List Value} (h : cs.toList = vs) (hr : VRels ex μ l vs) : VRel ex μ (.agg l) (.agg cs) := by
  simp only [VRel]; exact ⟨cs, rfl, by rw [h]; exact hr⟩
end
end Go.Sim
