/- What the plain laws share: bounds and sameness. -/
import Derived.Test.YtefmihgjheokeaaFns
namespace Go.Proofs.Ytefmihgjheokeaa
open Go.Sim
theorem u64ok_of {a : Nat} (h : a < 18446744073709551616) : u64ok (Int.ofNat a) = true := by
  simp only [u64ok, Nat.blt_eq]; exact h
theorem ieq_self (a : Int) : ieq a a = true := by simp [ieq]
theorem same_self (x : Nat) : s_ref01_Same_0 x x = true := by
  unfold s_ref01_Same_0; rw [ieq_self]; cases nanb x <;> rfl
theorem same_of {x y : Nat} (h : x = y) : s_ref01_Same_0 x y = true := by rw [h, same_self]
theorem bif_true {α : Type} {c : Bool} {x y z : α} (hc : c = true) (hx : x = z) : (bif c then x else y) = z := by rw [hc]; exact hx
end Go.Proofs.Ytefmihgjheokeaa
