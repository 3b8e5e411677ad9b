/- What comes to a number comes of numbers; what is opposite cancels. -/
import Derived.Test.YtofpjfohijljgaaSimValues
namespace Go.Sim
open Ieee in
open Ieee in
theorem end_sub {x : Nat} : feq (fsub x x) 0 = true → fin x = true := by
 intro h
 cases hn : nanb x
 ·rcases inf_or hn with h1 | h1
  ·exact h1
  ·exfalso
   have : fsub x x = qnan := by
    unfold fsub Ieee.Format.sub; rw [read_inf h1]; cases sgnOf x <;> rfl
   rw [this, feq_nan (.inl nanb_qnan)] at h; cases h
 ·exfalso
  have : fsub x x = qnan := by
   unfold fsub Ieee.Format.sub
   obtain ⟨s, f, e⟩ := read_of_nanb hn
   rw [e, sum_nan_l]; rfl
  rw [this, feq_nan (.inl nanb_qnan)] at h; cases h
end Go.Sim
