/- One operation on abstract values, and that the model's own operation stands in the relation to it. -/
import Derived.Laws.Cover3
import Derived.Laws.StructEq
import Derived.Laws.Pointers
import Derived.Laws.Unary
import Derived.Laws.Small
import Derived.Laws.AppendOwn
import Derived.Laws.Build
import Derived.Laws.MakeOwn
import Derived.Lib.SliceRun
import Derived.Test.YtbkogihigehjlaaLMerge
namespace Go.Lst
open Go.Sim (FR nanb cn fadd fsub fmul fdiv fneg feq flt fle fop fsqrt)

/-- What has to hold for an evaluation to count. -/
inductive Ob where
  | tt
  | bit (b : Bool)
  | ite (b : Bool) (x y : Ob)
  | and (x y : Ob)
/-- The one or the other: of two that are known to hold, that it holds. -/
def mrgB (q x y : Bool) : Bool := cond (x && y) true (cond q x y)
theorem mrgB_eq (q x y : Bool) : mrgB q x y = cond q x y := by cases q <;> cases x <;> cases y <;> rfl
theorem mrgB_self (q x : Bool) : mrgB q x x = x := by cases q <;> cases x <;> rfl
def Ob.ok : Ob → Bool
  | .tt => true
  | .bit b => b
  | .ite b x y => mrgB b x.ok y.ok
  | .and x y => x.ok && y.ok
def Ob.both : Ob → Ob → Ob
  | .tt, y => y
  | x, .tt => x
  | x, y => .and x y
def Ob.merge (b : Bool) : Ob → Ob → Ob
  | .tt, .tt => .tt
  | x, y => .ite b x y
theorem Ob.both_ok (x y : Ob) : (Ob.both x y).ok = (x.ok && y.ok) := by
  cases x <;> cases y <;> simp [Ob.both, Ob.ok]
theorem Ob.merge_ok (b : Bool) (x y : Ob) : (Ob.merge b x y).ok = cond b x.ok y.ok := by
  cases x <;> cases y <;> simp [Ob.merge, Ob.ok, mrgB_eq]

/-- What one operation does: it yields a value; it yields the address of a new block, or a slice over it (cells of an element, length, capacity); it writes. -/
inductive Step where
  | ro (v : AV)
  | new (b : Blk) (m : Option (Nat × Nat × Nat))
  | wr (H : Heap)

/-- The greater one of two floats. -/
def fmax (a b : Nat) : Nat := match Ieee.double.order a b with
  | none => Go.Sim.qnan
  | some .lt => b
  | some .gt => a
  | some .eq => cond (FloatKind.f64.decode a).neg b a
def maxL (a : Nat) : List AV → Option Nat
  | [] => some a
  | .float b :: r => maxL (fmax a b) r
  | _ => none
/-- 'max' of floats. -/
def maxF : Builtin → List AV → Option Nat
  | .max, .float a :: r => maxL a r
  | _, _ => none
def ieq (a b : Int) : Bool := decide (a = b)
def ilt (a b : Int) : Bool := decide (a < b)
def ile (a b : Int) : Bool := decide (a ≤ b)
section defs
variable (P : Program) (ex : Bool)

def aggD : TypeDesc → Bool
  | .struct _ | .array _ _ => true
  | _ => false
def aggT (t : TypeId) : Option Bool := match P.underlying t with | some d => some (aggD d) | none => none
def szT (t : TypeId) : Option Nat := match P.info? t with | some i => some i.size | none => none
def byT (t : TypeId) : Option Nat := match P.info? t with | some i => some i.bytes | none => none
def zeroA (t : TypeId) : Option AV :=
  match P.info? t with
  | some i => match i.zero with | some z => toAV 5 z | none => none
  | none => none
def zeroC (t : TypeId) : Option (List AV) := match zeroA P t with | some z => z.cells | none => none

def fillA (place : Nat → Option (Nat × Nat)) : List AV → List (Nat × AV) → Option (List AV)
  | cells, [] => some cells
  | cells, (i, v) :: rest =>
    match place i, v.cells with
    | some (off, size), some cs => cond (Nat.beq cs.length size && Nat.ble (off + cs.length) cells.length) (fillA place (setR cells off cs) rest) none
    | _, _ => none
def placesA : List Field → Option (List (Nat × Nat))
  | [] => some []
  | f :: fs => match P.info? f.type, placesA fs with | some i, some r => some ((f.offset, i.size) :: r) | _, _ => none
def builtA (t : TypeId) (parts : List (Nat × AV)) : Option (List AV) :=
  match zeroC P t, P.underlying t with
  | some z, some (.array _ e) => match szT P e with | some s => fillA (fun i => some (i * s, s)) z parts | none => none
  | some z, some (.struct fields) => match placesA P fields.toList with | some places => fillA (fun i => places[i]?) z parts | none => none
  | _, _ => none
def partsA (ρ : Operand → Option AV) : List (Nat × Operand) → Option (List (Nat × AV))
  | [] => some []
  | (i, x) :: r => match ρ x, partsA ρ r with | some v, some l => some ((i, v) :: l) | _, _ => none
def opsA (ρ : Operand → Option AV) : List Operand → Option (List AV)
  | [] => some []
  | x :: r => match ρ x, opsA ρ r with | some v, some l => some (v :: l) | _, _ => none
def partA (t : TypeId) (l : List AV) (off : Nat) : Option AV :=
  match aggT P t with
  | some true => match szT P t with | some s => some (.agg ((l.drop off).take s)) | none => none
  | some false => l[off]?
  | none => none
def oneAll : List AV → Bool
  | [] => true
  | a :: l => a.one && oneAll l
/-- The element that a place lies in, where an element has s cells. -/
def eltA (s : Nat) : Off → Nat × Nat
  | .lit o => (o / s, o % s)
  | .at i t k => cond (Nat.beq t s) (i, k) ((i * t + k) / s, (i * t + k) % s)
  | .idx i t k _ => ((i * t + k) / s, (i * t + k) % s)
/-- The one of n values, from the one of number j on, that a number tells. -/
def pickA (i : Nat) (f : Nat → AV) : Nat → Nat → AV
  | 0, _ => .top
  | 1, j => f j
  | n + 2, j => mergeAV (Nat.beq i j) (f j) (pickA i f (n + 1) (j + 1))
theorem pickA_eq (i : Nat) (f : Nat → AV) : ∀ (n j : Nat), j ≤ i → i < j + n → pickA i f n j = f i
  | 0, j, h1, h2 => by omega
  | 1, j, h1, h2 => by
    have : i = j := by omega
    subst this; rfl
  | n + 2, j, h1, h2 => by
    unfold pickA
    rw [mergeAV_eq]
    by_cases hij : i = j
    · subst hij; rw [Nat.beq_refl]; rfl
    · have : Nat.beq i j = false := by
        cases hb : Nat.beq i j with
        | false => rfl
        | true => exact absurd (Nat.eq_of_beq_eq_true hb) hij
      rw [this, cond_false]
      exact pickA_eq i f (n + 1) (j + 1) (by omega) (by omega)
def rdA (ag : Bool) (m : Nat) (l : List AV) (o : Nat) : AV := cond ag (.agg ((l.drop o).take m)) ((l[o]?).getD .top)
/-- What is written to the element i of n elements of z cells, from cell k on. -/
def setP (i z k : Nat) (cs : List AV) : Nat → List AV → List AV
  | 0, l => l
  | n + 1, l => setM (Nat.beq i n) (setP i z k cs n l) (n * z + k) cs
theorem setP_eq (i z k : Nat) (cs : List AV) : ∀ (n : Nat) (l : List AV), setP i z k cs n l = if i < n then setR l (i * z + k) cs else l
  | 0, l => by rw [if_neg (by omega)]; rfl
  | n + 1, l => by
    unfold setP
    rw [setM_eq, setP_eq i z k cs n l]
    by_cases hin : i = n
    · subst hin
      rw [Nat.beq_refl, if_neg (by omega), if_pos (by omega)]; rfl
    · have : Nat.beq i n = false := by
        cases hb : Nat.beq i n with
        | false => rfl
        | true => exact absurd (Nat.eq_of_beq_eq_true hb) hin
      rw [this, cond_false]
      by_cases h : i < n
      · rw [if_pos h, if_pos (by omega)]
      · rw [if_neg h, if_neg (by omega)]
def loadA (H : Heap) (t : TypeId) (p : Pos) : Option (Ob × AV) :=
  match H[p.b]? with
  | none => none
  | some b => cond (Nat.beq p.g b.g)
    (match b.cells with
    | .flat l =>
      match p.o with
      | .idx i s k n => match aggT P t, szT P t with
        | some ag, some m => cond (Nat.ble 1 m && Nat.ble (n * s + k + m) (l.length + s)) (some (.bit (Nat.blt i n), pickA i (fun j => rdA ag m l (j * s + k)) n 0)) none
        | _, _ => none
      | _ =>
      match aggT P t with
      | some true => match szT P t with | some s => cond (Nat.ble (p.o.val + s) l.length) (some (.tt, .agg ((l.drop p.o.val).take s))) none | none => none
      | some false => match l[p.o.val]? with | some v => some (.tt, v) | none => none
      | none => none
    | .sym n s f =>
      match aggT P t with
      | some true => match szT P t with
        | some m => cond (Nat.blt 0 s && (Nat.ble ((eltA s p.o).2 + m) s && Nat.blt (eltA s p.o).2 s)) (some (.bit (Nat.blt (eltA s p.o).1 n), .agg (((f (eltA s p.o).1).drop (eltA s p.o).2).take m))) none
        | none => none
      | some false => match (f (eltA s p.o).1)[(eltA s p.o).2]? with
        | some v => cond (Nat.blt 0 s && Nat.blt (eltA s p.o).2 s) (some (.bit (Nat.blt (eltA s p.o).1 n), v)) none
        | none => none
      | none => none) none
def storeA (H : Heap) (t : TypeId) (p : Pos) (v : AV) : Option (Ob × Heap) :=
  match H[p.b]?, szT P t, v.cells with
  | some b, some s, some cs => cond (Nat.beq p.g b.g && (Nat.beq cs.length s && oneAll cs))
    (match b.cells with
    | .flat l => match p.o with
      | .idx i z k n => cond (Nat.ble (n * z + k + s) (l.length + z)) (some (.bit (Nat.blt i n), H.set p.b ⟨.flat (setP i z k cs n l), b.ty, b.g⟩)) none
      | _ => cond (Nat.ble (p.o.val + s) l.length) (some (.tt, H.set p.b ⟨.flat (setR l p.o.val cs), b.ty, b.g⟩)) none
    | .sym n z f => cond (Nat.blt 0 z && (Nat.ble ((eltA z p.o).2 + s) z && Nat.blt (eltA z p.o).2 z))
      (some (.bit (Nat.blt (eltA z p.o).1 n), H.set p.b ⟨.sym n z (fun j => setM (Nat.beq j (eltA z p.o).1) (f j) (eltA z p.o).2 cs), b.ty, b.g⟩)) none) none
  | _, _, _ => none
def zeros (z : List AV) (n : Nat) : List AV := (List.range n).map fun i => z.getD (i % z.length) (.tup [])
def intBin (op : BinOp) (k : IntKind) (a : Int) (k' : IntKind) (b : Int) : Option (Ob × AV) :=
  match op with
  | .shl => cond (ilt b 0) none (some (.tt, .int k (k.wrap (a * 2 ^ (min b.toNat k.bits)))))
  | .shr => cond (ilt b 0) none (some (.tt, .int k (a.fdiv (2 ^ (min b.toNat k.bits)))))
  | op => cond (decide (k = k'))
    (match op with
    | .add => some (.tt, .int k (k.wrap (a + b)))
    | .sub => some (.tt, .int k (k.wrap (a - b)))
    | .mul => some (.tt, .int k (k.wrap (a * b)))
    | .quo => (some (.bit (!ieq b 0), .int k (k.wrap (a.tdiv b))))
    | .rem => (some (.bit (!ieq b 0), .int k (a.tmod b)))
    | .and => some (.tt, .int k (k.wrap ((a % 2 ^ k.bits).toNat &&& (b % 2 ^ k.bits).toNat : Nat)))
    | .or => some (.tt, .int k (k.wrap ((a % 2 ^ k.bits).toNat ||| (b % 2 ^ k.bits).toNat : Nat)))
    | .xor => some (.tt, .int k (k.wrap ((a % 2 ^ k.bits).toNat ^^^ (b % 2 ^ k.bits).toNat : Nat)))
    | .andNot => some (.tt, .int k (k.wrap ((a % 2 ^ k.bits).toNat &&& (2 ^ k.bits - 1 - (b % 2 ^ k.bits).toNat) : Nat)))
    | .eql => some (.tt, .bool (ieq a b))
    | .neq => some (.tt, .bool (!ieq a b))
    | .lss => some (.tt, .bool (ilt a b))
    | .leq => some (.tt, .bool (ile a b))
    | .gtr => some (.tt, .bool (ilt b a))
    | .geq => some (.tt, .bool (ile b a))
    | _ => none) none
def floatBin (op : BinOp) (a b : Nat) : Option (Ob × AV) :=
  match op with
  | .add => cond ex none (some (.tt, .float (fadd a b)))
  | .sub => cond ex none (some (.tt, .float (fsub a b)))
  | .mul => cond ex none (some (.tt, .float (fmul a b)))
  | .quo => cond ex none (some (.tt, .float (fdiv a b)))
  | .eql => some (.tt, .bool (feq a b))
  | .neq => some (.tt, .bool (!feq a b))
  | .lss => some (.tt, .bool (flt a b))
  | .leq => some (.tt, .bool (fle a b))
  | .gtr => some (.tt, .bool (flt b a))
  | .geq => some (.tt, .bool (fle b a))
  | _ => none
/-- '==' at a type. -/
def eqA : Nat → TypeId → AV → AV → Option Bool
  | 0, _, _, _ => none
  | d + 1, t, x, y =>
    match P.underlying t, x, y with
    | some .bool, .bool a, .bool b => some (a == b)
    | some (.int _), .int k a, .int k' b => cond (decide (k = k')) (some (ieq a b)) none
    | some (.float _), .float a, .float b => some (feq a b)
    | some (.complex _), .complex a b, .complex a' b' => some (feq a a' && feq b b')
    | some (.pointer _), .ptr none, .ptr b => some b.isNone
    | some (.pointer _), .ptr (some _), .ptr none => some false
    | some (.interface _), .nilIface, .iface _ _ => some false
    | some (.interface _), .iface _ _, .nilIface => some false
    | some (.slice _), .slice none _ _, .slice b _ _ => some b.isNone
    | some (.slice _), .slice (some _) _ _, .slice none _ _ => some false
    | some (.struct fields), .agg xs, .agg ys => cond (P.stoodInHeld t) none (eqFieldsA (fun u a b => eqA d u a b) xs ys fields.toList)
    | some (.array n e), .agg xs, .agg ys => match szT P e with | some s => eqItemsA (fun u a b => eqA d u a b) e s xs ys n 0 | none => none
    | _, _, _ => none
where
  eqFieldsA (eq : TypeId → AV → AV → Option Bool) (xs ys : List AV) : List Field → Option Bool
  | [] => some true
  | f :: fs => cond (f.name == "_") none
    (match partA P f.type xs f.offset, partA P f.type ys f.offset with
    | some a, some b => match eq f.type a b, eqFieldsA eq xs ys fs with | some r, some s => some (r && s) | _, _ => none
    | _, _ => none)
  eqItemsA (eq : TypeId → AV → AV → Option Bool) (e : TypeId) (s : Nat) (xs ys : List AV) : Nat → Nat → Option Bool
  | 0, _ => some true
  | n + 1, i => match partA P e xs (i * s), partA P e ys (i * s) with
    | some a, some b => match eq e a b, eqItemsA eq e s xs ys n (i + 1) with | some r, some s => some (r && s) | _, _ => none
    | _, _ => none
/-- A list that is not empty held against nil. -/
def nilA (op : BinOp) (t : TypeId) (n : Nat) : Option (Ob × AV) :=
  match P.underlying t with
  | some (.slice _) => match op with
    | .eql => some (.bit (Nat.blt 0 n), .bool false)
    | .neq => some (.bit (Nat.blt 0 n), .bool true)
    | _ => none
  | _ => none
def binA (op : BinOp) (t : TypeId) (x y : AV) : Option (Ob × AV) :=
  match x, y with
  | .int k a, .int k' b => intBin op k a k' b
  | .float a, .float b => floatBin ex op a b
  | .complex a b, .complex c d =>
    match op with
    | .eql => some (.tt, .bool (feq a c && feq b d))
    | .neq => some (.tt, .bool (!(feq a c && feq b d)))
    | _ => none
  | .agg xs, .agg ys =>
    cond (P.eqGuardType P.depth t) none
    (match op with
    | .eql => match eqA P 8 t (.agg xs) (.agg ys) with | some b => some (.tt, .bool b) | none => none
    | .neq => match eqA P 8 t (.agg xs) (.agg ys) with | some b => some (.tt, .bool (!b)) | none => none
    | _ => none)
  | .bool a, .bool b => eqTop op t (.bool a) (.bool b)
  | .ptr a, .ptr b => eqTop op t (.ptr a) (.ptr b)
  | .slice a m n, .slice b k l => eqTop op t (.slice a m n) (.slice b k l)
  | .view n _ _, .slice none _ _ => match P.underlying t, op with
    | some (.slice _), .eql => some (.tt, .unk n)
    | _, _ => none
  | .lst _ _ _ n _, .slice none _ _ => nilA P op t n
  | .iface u a, .nilIface => eqTop op t (.iface u a) .nilIface
  | .nilIface, .iface u a => eqTop op t .nilIface (.iface u a)
  | _, _ => none
where eqTop (op : BinOp) (t : TypeId) (x y : AV) : Option (Ob × AV) :=
    match op with
    | .eql => match eqA P 8 t x y with | some b => some (.tt, .bool b) | none => none
    | .neq => match eqA P 8 t x y with | some b => some (.tt, .bool (!b)) | none => none
    | _ => none
def unA (op : UnOp) (x : AV) : Option AV :=
  match op, x with
  | .neg, .float a => some (.float (cond ex (Op.negFloat .f64 a) (fneg a)))
  | .neg, .complex a b => some (.complex (cond ex (Op.negFloat .f64 a) (fneg a)) (cond ex (Op.negFloat .f64 b) (fneg b)))
  | .neg, .int k n => some (.int k (k.wrap (0 - n)))
  | .not, .bool b => some (.bool (!b))
  | _, _ => none
def convA (src dst : TypeId) (x : AV) : Option AV :=
  match P.underlying src, P.underlying dst, x with
  | some _, some (.int k), .int _ n => some (.int k (k.wrap n))
  | some _, some (.float .f64), .int _ n => some (.float (FloatKind.f64.nearest n))
  | some _, some (.float .f64), .float a => some (.float a)
  | some _, some (.complex .f64), .complex a b => some (.complex a b)
  | _, _, _ => none
def offA (s : TypeId) (f : Nat) : Option (Nat × TypeId) :=
  match P.underlying s with
  | some (.struct fields) => match fields.toList[f]? with | some x => some (x.offset, x.type) | none => none
  | _ => none
/-- An index: what has to hold, and the number. -/
def ixA : AV → Option (Ob × Nat)
  | .int _ n => some (.bit (ile 0 n), n.toNat)
  | _ => none
def optA (ρ : Operand → Option AV) : Option Operand → Option (Option AV)
  | none => some none
  | some x => match ρ x with | some v => some (some v) | none => none
/-- A bound of 'x[low:high]', where it may be left out. -/
def bdA (d : Nat) : Option AV → Option (Ob × Nat)
  | none => some (.tt, d)
  | some v => ixA v
/-- 'x[low:high:max]' of a list. -/
def cutA (x : AV) (s : Nat) (lo hi mx : Option AV) : Option (Ob × AV) :=
  match mx with
  | some m => match x, bdA 0 lo, hi, ixA m with
    | .lst .., some (a, 0), some h, some (c, 0) => match ixA h with | some (d, 0) => some (Ob.both a (Ob.both c d), .nul) | _ => none
    | .view .., some (a, 0), some h, some (c, 0) => match ixA h with | some (d, 0) => some (Ob.both a (Ob.both c d), .nul) | _ => none
    | .slice none 0 0, some (a, 0), some h, some (c, 0) => match ixA h with | some (d, 0) => some (Ob.both a (Ob.both c d), .slice none 0 0) | _ => none
    | .nul, some (a, 0), some h, some (c, 0) => match ixA h with | some (d, 0) => some (Ob.both a (Ob.both c d), .nul) | _ => none
    | _, _, _, _ => none
  | none => match x with
    | .lst b g z n l => match bdA 0 lo, bdA n hi with
      | some (a, 0), some (d, h) => cond (Nat.beq z s) (some (Ob.both a (Ob.both d (.bit (Nat.ble h l || Nat.ble h n))), .lst b g z h l)) none
      | _, _ => none
    | .view n z f => match lo, bdA n hi with
      | none, some (d, h) => cond (Nat.beq z s) (some (Ob.both d (.bit (Nat.ble h n)), .view h z f)) none
      | some l, some (d, h) => match ixA l with
        | some (a, o) => cond (Nat.beq z s) (some (Ob.both a (Ob.both d (.bit (Nat.ble o h && Nat.ble h n))), .view (h - o) z (fun i => f (o + i)))) none
        | none => none
      | _, _ => none
    | .slice none 0 0 => match bdA 0 lo, bdA 0 hi with
      | some (a, l), some (d, h) => some (Ob.both a (Ob.both d (.bit (Nat.beq l 0 && Nat.beq h 0))), .slice none 0 0)
      | _, _ => none
    | .nul => match bdA 0 lo, bdA 0 hi with
      | some (a, l), some (d, h) => some (Ob.both a (Ob.both d (.bit (Nat.beq l 0 && Nat.beq h 0))), .nul)
      | _, _ => none
    | _ => none
/-- The bounds of 'x[low:high]' of an array, where they are written down. -/
def numA : AV → Option Nat
  | .int _ (.ofNat n) => some n
  | _ => none
def boundsA (len cap : Nat) (low high max : Option AV) : Option (Nat × Nat × Nat) :=
  match (match max with | some v => numA v | none => some cap) with
  | none => none
  | some m =>
    match (match high with | some v => numA v | none => some len) with
    | none => none
    | some h =>
      match (match low with | some v => numA v | none => some 0) with
      | none => none
      | some l => cond (Nat.ble l h && Nat.ble h m && Nat.ble m cap && (high.isSome || !max.isSome)) (some (l, h, m)) none
/-- Is a number that the run finds used in an array whose place is known? -/
def openA : Operand → Off → Option Nat
  | .tmp _, .lit k => some k
  | _, _ => none
theorem openA_some {x : Operand} {o : Off} {k : Nat} (h : openA x o = some k) : o.val = k := by
  cases x <;> cases o <;> simp_all [openA, Off.val]
def Off.plus (n : Nat) : Off → Off
  | .lit o => .lit (o + n)
  | .at i s k => .at i s (k + n)
  | .idx i s k m => .idx i s (k + n) m
theorem Off.plus_val (n : Nat) (o : Off) : (o.plus n).val = o.val + n := by
  cases o <;> simp [Off.plus, Off.val, Nat.add_assoc]

def stepOp (o : Op) (ρ : Operand → Option AV) (H : Heap) : Option (Ob × Step) :=
  match o with
  | .move x => match ρ x with | some v => some (.tt, .ro v) | none => none
  | .assign x => match ρ x with | some v => some (.tt, .ro v) | none => none
  | .alloc elem => match zeroC P elem with | some z => some (.tt, .new ⟨.flat z, elem, 0⟩ none) | none => none
  | .box elem x => match ρ x with | some v => (match v.cells with | some c => some (.tt, .new ⟨.flat c, elem, 0⟩ none) | none => none) | none => none
  | .build t parts => match partsA ρ parts.toList with
    | some ps => match builtA P t ps with | some l => some (.tt, .ro (.agg l)) | none => none
    | none => none
  | .buildSlice t len parts => match P.underlying t with
    | some (.slice elem) => match partsA ρ parts.toList, szT P elem, zeroC P elem with
      | some ps, some s, some z => cond (Nat.ble (len * s) 1024 && Nat.blt 0 (len * s) && Nat.blt 0 z.length)
        (match fillA (fun i => some (i * s, s)) (zeros z (len * s)) ps with | some l => some (.tt, .new ⟨.flat l, elem, 0⟩ (some (s, len, len))) | none => none)
        (cond (Nat.beq len 0) (match ps with | [] => some (.tt, .new ⟨.flat [], elem, 0⟩ (some (s, 0, 0))) | _ :: _ => none) none)
      | _, _, _ => none
    | _ => none
  | .makeSlice t x y => match P.underlying t with
    | some (.slice elem) => match ρ x, ρ y, szT P elem, byT P elem, zeroC P elem with
      | some (.int _ l), some (.int _ c), some s, some bytes, some z => cond (Nat.blt 0 s && (Nat.beq z.length s && oneAll z))
        (some (.bit (ile 0 l && (ile l c && (ile ((bytes : Int) * c) 281474976710656 && ile c 9223372036854775807))), .new ⟨.sym c.toNat s (fun _ => z), elem, 0⟩ (some (s, l.toNat, c.toNat)))) none
      | _, _, _, _, _ => none
    | _ => none
  | .load t x => match ρ x with
    | some (.ptr (some p)) => match loadA P H t p with | some (o, v) => some (o, .ro v) | none => none
    | some (.vptr l) => match aggT P t with
      | some true => match szT P t with | some s => cond (Nat.blt 0 s && Nat.ble s l.length) (some (.tt, .ro (.agg (l.take s)))) none | none => none
      | some false => match l[0]? with | some v => some (.tt, .ro v) | none => none
      | none => none
    | _ => none
  | .store t x y => match ρ x, ρ y with
    | some (.ptr (some p)), some v => match storeA P H t p v with | some (o, H') => some (o, .wr H') | none => none
    | _, _ => none
  | .nilCheck x => match ρ x with
    | some (.ptr (some p)) => some (.tt, .ro (.ptr (some p)))
    | some (.vptr l) => some (.tt, .ro (.vptr l))
    | some (.func f l r) => some (.tt, .ro (.func f l r))
    | _ => none
  | .binOp op t x y _ => match ρ x, ρ y with
    | some a, some b => match binA P ex op t a b with | some (o, v) => some (o, .ro v) | none => none
    | _, _ => none
  | .unOp op _ x => match ρ x with
    | some a => match unA ex op a with | some v => some (.tt, .ro v) | none => none
    | none => none
  | .convert src dst x => match ρ x with
    | some a => match convA P src dst a with | some v => some (.tt, .ro v) | none => none
    | none => none
  | .makeInterface t x => match ρ x with
    | some v => cond (P.concrete t) (some (.tt, .ro (.iface t v))) none
    | none => none
  | .makeFunc (.func f) first captured => match opsA ρ first.toList, opsA ρ captured.toList with
    | some l, some r => some (.tt, .ro (.func f l r))
    | _, _ => none
  | .fieldAddr s x f => match ρ x, offA P s f with
    | some (.ptr (some p)), some (o, t) => match szT P t with
      | some n => cond (Nat.blt 0 n) (some (.tt, .ro (.ptr (some ⟨p.b, p.g, p.o.plus o⟩)))) none
      | none => none
    | some (.vptr l), some (o, t) => match szT P t with
      | some n => cond (Nat.blt 0 n) (some (.tt, .ro (.vptr (l.drop o)))) none
      | none => none
    | _, _ => none
  | .field s x f => match ρ x, offA P s f with
    | some (.agg l), some (o, t) => match partA P t l o with | some v => some (.tt, .ro v) | none => none
    | _, _ => none
  | .indexAddr t x ix => match P.underlying t, ρ x, ρ ix with
    | some (.slice elem), some (.slice (some p) len _), some iv => match numA iv, szT P elem with
      | some n, some s => cond (Nat.blt n len) (some (.tt, .ro (.ptr (some ⟨p.b, p.g, p.o.plus (n * s)⟩)))) none
      | _, _ => none
    | some (.slice elem), some (.lst b g z len _), some iv => match ixA iv, szT P elem with
      | some (o, n), some s => cond (Nat.beq z s) (some (Ob.both o (.bit (Nat.blt n len)), .ro (.ptr (some ⟨b, g, .at n z 0⟩)))) none
      | _, _ => none
    | some (.slice elem), some (.view len z f), some iv => match ixA iv, szT P elem with
      | some (o, n), some s => cond (Nat.beq z s) (some (Ob.both o (.bit (Nat.blt n len)), .ro (.vptr (f n)))) none
      | _, _ => none
    | some (.array len elem), some (.ptr (some p)), some iv => match openA ix p.o with
      | some k => match ixA iv, szT P elem with
        | some (o, n), some s => some (Ob.both o (.bit (Nat.blt n len)), .ro (.ptr (some ⟨p.b, p.g, .idx n s k len⟩)))
        | _, _ => none
      | none => match numA iv, szT P elem with
        | some n, some s => cond (Nat.blt n len) (some (.tt, .ro (.ptr (some ⟨p.b, p.g, p.o.plus (n * s)⟩)))) none
        | _, _ => none
    | _, _, _ => none
  | .index t x ix => match P.underlying t, ρ x, ρ ix with
    | some (.array len elem), some (.agg l), some iv => match numA iv, szT P elem with
      | some n, some s => cond (Nat.blt n len) (match partA P elem l (n * s) with | some v => some (.tt, .ro v) | none => none) none
      | _, _ => none
    | _, _, _ => none
  | .slice t x low high max => match P.underlying t, ρ x, optA ρ low, optA ρ high, optA ρ max with
    | some (.array n elem), some (.ptr (some p)), some lo, some hi, some mx => match boundsA n n lo hi mx, szT P elem with
      | some (l, h, m), some s => some (.tt, .ro (.slice (some ⟨p.b, p.g, cond (Nat.beq m l) p.o (p.o.plus (l * s))⟩) (h - l) (m - l)))
      | _, _ => none
    | some (.slice elem), some v, some lo, some hi, some mx => match szT P elem with
      | some s => match cutA v s lo hi mx with | some (o, r) => some (o, .ro r) | none => none
      | none => none
    | _, _, _, _, _ => none
  | .extract x i => match ρ x with
    | some (.tup l) => match l[i]? with | some v => some (.tt, .ro v) | none => none
    | _ => none
  | _ => none
end defs
end Go.Lst
