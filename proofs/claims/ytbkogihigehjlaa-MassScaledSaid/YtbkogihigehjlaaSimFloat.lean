/- Floats up to which NaN: the abstract side of every float operation of the model, and that the model's own operation stands in the relation to it. -/
import GoSem.Core.Float
import GoSem.Op.Unary
import Derived.Laws.FloatArith
namespace Go.Sim

def qnan : Nat := 9221120237041090561
def nanb (b : Nat) : Bool := (Ieee.double.read b).isNaN
/-- A word, all NaN as one. -/
def cn (b : Nat) : Nat := bif nanb b then qnan else b
def feq (a b : Nat) : Bool := Ieee.double.order a b == some .eq
def flt (a b : Nat) : Bool := Ieee.double.order a b == some .lt
def fle (a b : Nat) : Bool := flt a b || feq a b
def fadd (a b : Nat) : Nat := (Ieee.double.add a b).getD qnan
def fsub (a b : Nat) : Nat := (Ieee.double.sub a b).getD qnan
def fmul (a b : Nat) : Nat := (Ieee.double.mul a b).getD qnan
def fdiv (a b : Nat) : Nat := (Ieee.double.div a b).getD qnan
def fsqrt (a : Nat) : Nat := (Ieee.double.sqrt a).getD qnan
def fneg (a : Nat) : Nat := cn (Op.negFloat .f64 a)

theorem nanb_qnan : nanb qnan = true := by decide
theorem read_of_nanb {b : Nat} (h : nanb b = true) : ∃ s f, Ieee.double.read b = .nan s f := by
  unfold nanb at h
  cases hr : Ieee.double.read b with
  | nan s f => exact ⟨s, f, rfl⟩
  | number s m e => rw [hr] at h; cases h
  | infinity s => rw [hr] at h; cases h
theorem cn_of_not {b : Nat} (h : nanb b = false) : cn b = b := by simp [cn, h]
theorem cn_of_nan {b : Nat} (h : nanb b = true) : cn b = qnan := by simp [cn, h]
theorem nanb_cn (b : Nat) : nanb (cn b) = nanb b := by
  cases h : nanb b
  · rw [cn_of_not h, h]
  · rw [cn_of_nan h]; exact nanb_qnan
theorem cn_cn (b : Nat) : cn (cn b) = cn b := by
  cases h : nanb b
  · rw [cn_of_not h, cn_of_not h]
  · rw [cn_of_nan h]; exact cn_of_nan nanb_qnan
theorem cn_lt {b : Nat} (h : b < 2 ^ 64) : cn b < 2 ^ 64 := by
  unfold cn; cases nanb b
  · exact h
  · show qnan < _; decide

section
open Ieee
theorem sum_nan_l (s : Bool) (f : Nat) (d : Datum) : (Datum.nan s f).sum d = none := by cases d <;> rfl
theorem sum_nan_r (s : Bool) (f : Nat) (d : Datum) : d.sum (Datum.nan s f) = none := by cases d <;> rfl
theorem product_nan_l (s : Bool) (f : Nat) (d : Datum) : (Datum.nan s f).product d = none := by cases d <;> rfl
theorem product_nan_r (s : Bool) (f : Nat) (d : Datum) : d.product (Datum.nan s f) = none := by cases d <;> rfl
theorem quotient_nan_l (n : Nat) (s : Bool) (f : Nat) (d : Datum) : (Datum.nan s f).quotient n d = none := by cases d <;> rfl
theorem quotient_nan_r (n : Nat) (s : Bool) (f : Nat) (d : Datum) : d.quotient n (Datum.nan s f) = none := by cases d <;> rfl
theorem order_nan_l (s : Bool) (f : Nat) (d : Datum) : (Datum.nan s f).order d = none := by cases d <;> rfl
theorem order_nan_r (s : Bool) (f : Nat) (d : Datum) : d.order (Datum.nan s f) = none := by cases d <;> rfl
theorem opp_nan (s : Bool) (f : Nat) : (Datum.nan s f).opposite = .nan (!s) f := rfl

/-- A binary operation on data that gives nothing where one is a NaN does not tell a word from its 'cn'. -/
theorem two_cn {β : Type} (F : Datum → Datum → Option β) (hl : ∀ s f d, F (.nan s f) d = none) (hr : ∀ s f d, F d (.nan s f) = none) (x y : Nat) :
    F (double.read (cn x)) (double.read (cn y)) = F (double.read x) (double.read y) := by
  cases hx : nanb x
  · cases hy : nanb y
    · rw [cn_of_not hx, cn_of_not hy]
    · obtain ⟨s, f, e⟩ := read_of_nanb hy
      obtain ⟨s', f', e'⟩ := read_of_nanb (b := cn y) (by rw [nanb_cn, hy])
      rw [e, e', hr, hr]
  · obtain ⟨s, f, e⟩ := read_of_nanb hx
    obtain ⟨s', f', e'⟩ := read_of_nanb (b := cn x) (by rw [nanb_cn, hx])
    rw [e, e', hl, hl]
theorem add_cn (x y : Nat) : double.add (cn x) (cn y) = double.add x y := by
  unfold Format.add; rw [two_cn Datum.sum sum_nan_l sum_nan_r]
theorem sub_cn (x y : Nat) : double.sub (cn x) (cn y) = double.sub x y := by
  unfold Format.sub
  rw [two_cn (fun a b => a.sum b.opposite) (fun s f d => sum_nan_l s f _) (fun s f d => by rw [opp_nan]; exact sum_nan_r _ _ d)]
theorem mul_cn (x y : Nat) : double.mul (cn x) (cn y) = double.mul x y := by
  unfold Format.mul; rw [two_cn Datum.product product_nan_l product_nan_r]
theorem div_cn (x y : Nat) : double.div (cn x) (cn y) = double.div x y := by
  unfold Format.div; rw [two_cn (fun a b => a.quotient _ b) (fun s f d => quotient_nan_l _ s f d) (fun s f d => quotient_nan_r _ s f d)]
theorem order_cn (x y : Nat) : double.order (cn x) (cn y) = double.order x y := by
  unfold Format.order; rw [two_cn Datum.order order_nan_l order_nan_r]
theorem sqrt_cn (x : Nat) : double.sqrt (cn x) = double.sqrt x := by
  cases hx : nanb x
  · rw [cn_of_not hx]
  · obtain ⟨s, f, e⟩ := read_of_nanb hx
    obtain ⟨s', f', e'⟩ := read_of_nanb (b := cn x) (by rw [nanb_cn, hx])
    unfold Format.sqrt; rw [e, e']; rfl

/-- What is written of a number or an infinity is no NaN. -/
theorem nanb_word (neg : Bool) {r : Nat} (h : r ≤ double.infRung) : nanb (double.word neg r) = false := by
  have hi : double.infRung = 9218868437227405312 := by decide
  have hs : double.signWeight = 9223372036854775808 := by decide
  have hm : double.word neg r % double.signWeight = r := by
    unfold Format.word; rw [hi] at h; rw [hs]; split <;> omega
  unfold nanb Format.read
  simp only [hm]
  split
  · rfl
  · split
    · rfl
    · rename_i h1 h2
      rw [if_pos (by omega)]; rfl
theorem nanb_nearest (neg : Bool) (m : Nat) (p : Int) : nanb (double.nearest neg m p) = false := by
  unfold Format.nearest
  dsimp only
  split
  · exact nanb_word _ (Nat.zero_le _)
  · exact nanb_word _ (Nat.min_le_right ..)
theorem nanb_write {d : Datum} (h : d.isNaN = false) : nanb (double.write d) = false := by
  cases d with
  | number n m p => exact nanb_nearest n m p
  | infinity n => exact nanb_word n (Nat.le_refl _)
  | nan n f => cases h
theorem nan_sum {a b d : Datum} (h : a.sum b = some d) : d.isNaN = false := by
  cases a <;> cases b <;> simp [Datum.sum] at h
  all_goals first | (obtain ⟨_, rfl⟩ := h; rfl) | (subst h; rfl)
theorem nan_product {a b d : Datum} (h : a.product b = some d) : d.isNaN = false := by
  cases a <;> cases b <;> simp [Datum.product] at h
  all_goals first | (obtain ⟨_, rfl⟩ := h; rfl) | (subst h; rfl)
theorem nan_quotient {n : Nat} {a b d : Datum} (h : a.quotient n b = some d) : d.isNaN = false := by
  cases a <;> cases b <;> simp only [Datum.quotient] at h
  all_goals first
    | (cases h; done)
    | (cases h; rfl)
    | (split at h
       · split at h
         · cases h
         · cases h; rfl
       · cases h; rfl)
theorem nan_root {n : Nat} {a d : Datum} (h : a.root n = some d) : d.isNaN = false := by
  cases a <;> simp only [Datum.root] at h
  · split at h
    · cases h; rfl
    · split at h
      · cases h
      · cases h; rfl
  · split at h
    · cases h
    · cases h; rfl
  · cases h
theorem nan_map {o : Option Datum} {r : Nat} (ho : ∀ d, o = some d → d.isNaN = false) (h : o.map double.write = some r) : nanb r = false := by
  cases o with
  | none => cases h
  | some d => cases h; exact nanb_write (ho d rfl)
theorem nan_add {x y r : Nat} (h : double.add x y = some r) : nanb r = false := nan_map (fun _ => nan_sum) h
theorem nan_sub {x y r : Nat} (h : double.sub x y = some r) : nanb r = false := nan_map (fun _ => nan_sum) h
theorem nan_mul {x y r : Nat} (h : double.mul x y = some r) : nanb r = false := nan_map (fun _ => nan_product) h
theorem nan_div {x y r : Nat} (h : double.div x y = some r) : nanb r = false := nan_map (fun _ => nan_quotient) h
theorem nan_sqrt {x r : Nat} (h : double.sqrt x = some r) : nanb r = false := nan_map (fun _ => nan_root) h

theorem order_swap (x y : Nat) : double.order x y = (double.order y x).map Ordering.swap := by
  unfold Format.order
  generalize double.read x = a
  generalize double.read y = b
  have hN : ∀ a b : Nat, compare a b = (compare b a).swap := fun a b => Std.OrientedCmp.eq_swap
  have hI : ∀ a b : Int, compare a b = (compare b a).swap := fun a b => Std.OrientedCmp.eq_swap
  cases a <;> cases b <;> simp only [Datum.order, Option.map_some, Option.map_none]
  · rename_i s m i t n j
    rw [show min j i = min i j from by omega]
    exact congrArg some (hI _ _)
  · rename_i t; cases t <;> rfl
  · rename_i s _ _ _; cases s <;> rfl
  · exact congrArg some (hN _ _)
end

theorem order_gt (x y : Nat) : (Ieee.double.order x y == some .gt) = flt y x := by
  unfold flt; rw [order_swap x y]
  cases h : Ieee.double.order y x with
  | none => rfl
  | some o => cases o <;> rfl
theorem feq_comm (x y : Nat) : feq x y = feq y x := by
  unfold feq; rw [order_swap x y]
  cases h : Ieee.double.order y x with
  | none => rfl
  | some o => cases o <;> rfl

theorem order_self {b : Nat} (h : nanb b = false) : Ieee.double.order b b = some .eq := by
  unfold nanb at h
  unfold Ieee.Format.order
  cases hr : Ieee.double.read b with
  | nan s f => rw [hr] at h; cases h
  | number s m i => exact congrArg some (Std.ReflCmp.compare_self)
  | infinity s => exact congrArg some (Std.ReflCmp.compare_self)
theorem feq_self (b : Nat) : feq b b = !nanb b := by
  unfold feq
  cases h : nanb b
  · rw [order_self h]; rfl
  · obtain ⟨s, f, e⟩ := read_of_nanb h
    unfold Ieee.Format.order
    rw [e]; rfl
theorem xor_lt {b : Nat} (h : b < 2 ^ 64) : b ^^^ 2 ^ 63 < 2 ^ 64 := Nat.xor_lt_two_pow h (by decide)
theorem neg_lt {b : Nat} (h : b < 2 ^ 64) : Op.negFloat .f64 b < 2 ^ 64 := xor_lt h
theorem nanb_mod {a b : Nat} (h : a % 2 ^ 63 = b % 2 ^ 63) : nanb a = nanb b := by
  have hs : Ieee.double.signWeight = 2 ^ 63 := by decide
  unfold nanb Ieee.Format.read
  simp only [hs, h]
  split
  · rfl
  · split
    · rfl
    · split <;> rfl
theorem nanb_neg (b : Nat) : nanb (Op.negFloat .f64 b) = nanb b := by
  apply nanb_mod
  show (b ^^^ 2 ^ 63) % 2 ^ 63 = b % 2 ^ 63
  rw [Nat.xor_mod_two_pow]
  simp
theorem neg_cn (b : Nat) : fneg (cn b) = cn (Op.negFloat .f64 b) := by
  unfold fneg
  cases h : nanb b
  · rw [cn_of_not h]
  · rw [cn_of_nan h, cn_of_nan (b := Op.negFloat .f64 b) (by rw [nanb_neg, h]), cn_of_nan (by rw [nanb_neg, nanb_qnan])]
theorem feq_cn (x y : Nat) : feq (cn x) (cn y) = feq x y := by unfold feq; rw [order_cn]
theorem flt_cn (x y : Nat) : flt (cn x) (cn y) = flt x y := by unfold flt; rw [order_cn]
theorem fle_cn (x y : Nat) : fle (cn x) (cn y) = fle x y := by unfold fle; rw [flt_cn, feq_cn]

theorem nanb_of {b r : Nat} (h : b % Ieee.double.signWeight = r) (h1 : Ieee.double.infRung < r) (h2 : Ieee.double.binade ≤ Ieee.double.infRung) : nanb b = true := by
  unfold nanb Ieee.Format.read
  simp only [h]
  rw [if_neg (Nat.not_lt.2 (Nat.le_trans h2 (Nat.le_of_lt h1))), if_neg (Nat.not_lt.2 (Nat.le_of_lt h1)), if_neg (Nat.ne_of_gt h1)]
  rfl
theorem mod_up (s A B m : Nat) (h : B + 1 + m < A) : (s * A + B + 1 + m) % A = B + 1 + m := by
  rw [Nat.add_assoc (s * A), Nat.add_assoc (s * A), Nat.mul_comm, Nat.mul_add_mod, Nat.mod_eq_of_lt h]
theorem cut_form (x y t : Nat) : (Question.nanBits .f64 x y).cut t = (t % 2) * 2 ^ 63 + 0x7ff0000000000000 + 1 + (t / 2) % (2 ^ 52 - 1) := rfl
theorem cut_nan (x y t : Nat) : nanb ((Question.nanBits .f64 x y).cut t) = true := by
  have h2 : (t / 2) % (2 ^ 52 - 1) < 2 ^ 52 - 1 := Nat.mod_lt _ (by decide)
  rw [cut_form]
  generalize (t / 2) % (2 ^ 52 - 1) = m at *
  generalize t % 2 = s at *
  have h3 : 0x7ff0000000000000 + 1 + m < 2 ^ 63 := Nat.lt_of_lt_of_le (Nat.add_lt_add_left h2 _) (by decide)
  have hs : Ieee.double.signWeight = 2 ^ 63 := by decide
  exact nanb_of (r := 0x7ff0000000000000 + 1 + m) (by rw [hs]; exact mod_up s (2 ^ 63) _ m h3) (Nat.lt_of_lt_of_le (Nat.lt_succ_self _) (Nat.le_add_right _ m)) (by decide)

theorem lt_up (s A B m : Nat) (hs : s < 2) (h : B + 1 + m < A) : s * A + B + 1 + m < 2 * A := by
  rw [Nat.add_assoc (s * A), Nat.add_assoc (s * A)]
  have : s * A ≤ 1 * A := Nat.mul_le_mul_right A (by omega)
  omega
theorem cut_lt (x y t : Nat) : (Question.nanBits .f64 x y).cut t < 2 ^ 64 := by
  have h2 : (t / 2) % (2 ^ 52 - 1) < 2 ^ 52 - 1 := Nat.mod_lt _ (by decide)
  have h1 : t % 2 < 2 := Nat.mod_lt _ (by decide)
  rw [cut_form]
  generalize (t / 2) % (2 ^ 52 - 1) = m at *
  generalize t % 2 = s at *
  have h3 : 0x7ff0000000000000 + 1 + m < 2 ^ 63 := Nat.lt_of_lt_of_le (Nat.add_lt_add_left h2 _) (by decide)
  have h4 := lt_up s (2 ^ 63) 0x7ff0000000000000 m h1 h3
  exact Nat.lt_of_lt_of_le h4 (by decide)

/-- What stands for a float: in the plain mode up to which NaN; in the exact mode to the bit. -/
def FR (ex : Bool) (a b : Nat) : Prop := b < 2 ^ 64 ∧ a = bif ex then b else cn b

/-- '+', '-', '*', '/' of the model: some float that stands in the relation, and at most one draw. -/
def fop : BinOp → Nat → Nat → Nat
  | .add, a, b => fadd a b
  | .sub, a, b => fsub a b
  | .mul, a, b => fmul a b
  | .quo, a, b => fdiv a b
  | _, _, _ => qnan
theorem run_drawn (P : Program) (w : World) (q : Question) (hq : q.forced = false) (f : Nat → Value) :
    (do pure (f (← choose q)) : Sem Value).run P w = .ok (f (q.cut (w.tape w.drawn q))) { w with drawn := w.drawn + 1 } := by
  simp [run_choose, hq]
theorem FR.nan {b : Nat} (h : nanb b = true) (hb : b < 2 ^ 64) : FR false qnan b := ⟨hb, (cn_of_nan h).symm⟩
theorem draw_any (P : Program) (w : World) (q : Question) (hq : q.forced = false) (h : nanb (q.cut (w.tape w.drawn q)) = true) (hb : q.cut (w.tape w.drawn q) < 2 ^ 64) :
    ∃ r n, (do pure (.float .f64 (← choose q)) : Sem Value).run P w = .ok (.float .f64 r) { w with drawn := w.drawn + n } ∧ FR false qnan r :=
  ⟨q.cut (w.tape w.drawn q), 1, run_drawn P w q hq _, FR.nan h hb⟩
theorem nan_not_forced (x y : Nat) : (Question.nanBits .f64 x y).forced = false := by simp [Question.forced]
theorem draw_nan (P : Program) (w : World) (x y : Nat) :
    ∃ r n, (do pure (.float .f64 (← choose (.nanBits .f64 x y))) : Sem Value).run P w = .ok (.float .f64 r) { w with drawn := w.drawn + n } ∧ FR false qnan r :=
  draw_any P w _ (nan_not_forced x y) (cut_nan x y _) (cut_lt x y _)
theorem run_arith_rel (P : Program) (w : World) (op : BinOp) (hop : op = .add ∨ op = .sub ∨ op = .mul ∨ op = .quo) (x y : Nat) :
    ∃ r n, (Op.floatArith op .f64 x y).run P w = .ok (.float .f64 r) { w with drawn := w.drawn + n } ∧ FR false (fop op (cn x) (cn y)) r := by
  have key : ∀ (o : Option Nat), (∀ r, o = some r → nanb r = false ∧ r < 2 ^ 64) → Op.floatArith op .f64 x y = (match o with | some r => pure (.float .f64 r) | none => (do pure (.float .f64 (← choose (.nanBits .f64 x y))))) →
      ∃ r n, (Op.floatArith op .f64 x y).run P w = .ok (.float .f64 r) { w with drawn := w.drawn + n } ∧ FR false (o.getD qnan) r := by
    intro o ho he
    rw [he]
    cases o with
    | some r => exact ⟨r, 0, rfl, (ho r rfl).2, (cn_of_not (ho r rfl).1).symm⟩
    | none => exact draw_nan P w x y
  rcases hop with rfl | rfl | rfl | rfl
  · have := key (Ieee.double.add x y) (fun r h => ⟨nan_add h, Ieee.double.add_lt h⟩) (by simp only [Op.floatArith, pure_bind]; rfl)
    simpa only [fop, fadd, add_cn] using this
  · have := key (Ieee.double.sub x y) (fun r h => ⟨nan_sub h, Ieee.double.sub_lt h⟩) (by simp only [Op.floatArith, pure_bind]; rfl)
    simpa only [fop, fsub, sub_cn] using this
  · have := key (Ieee.double.mul x y) (fun r h => ⟨nan_mul h, Ieee.double.mul_lt h⟩) (by simp only [Op.floatArith, pure_bind]; rfl)
    simpa only [fop, fmul, mul_cn] using this
  · have := key (Ieee.double.div x y) (fun r h => ⟨nan_div h, Ieee.double.div_lt h⟩) (by simp only [Op.floatArith, pure_bind]; rfl)
    simpa only [fop, fdiv, div_cn] using this
end Go.Sim
