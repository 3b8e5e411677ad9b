/- One operation on abstract values, and that the model's own operation stands in the relation to it. -/
import Derived.Laws.Cover3
import Derived.Laws.StructEq
import Derived.Laws.Pointers
import Derived.Laws.Unary
import Derived.Laws.Small
import Derived.Lib.SliceRun
import Derived.Test.YtbbopbelaamlaaaSimCore
namespace Go.Sim

/-- What one operation does: it yields a value; it yields the address of a new block; it yields a slice over a new block; it writes. -/
inductive Step where
  | ro (v : AV)
  | newP (b : Blk)
  | newS (b : Blk) (len cap : Nat)
  | wr (H : Heap)

def ieq (a b : Int) : Bool := decide (a = b)
def ilt (a b : Int) : Bool := decide (a < b)
def ile (a b : Int) : Bool := decide (a ≤ b)
section defs
variable (P : Program) (ex : Bool)

def aggD : TypeDesc → Bool
  | .struct _ | .array _ _ => true
  | _ => false
def aggT (t : TypeId) : Option Bool := match P.underlying t with | some d => some (aggD d) | none => none
def szT (t : TypeId) : Option Nat := match P.info? t with | some i => some i.size | none => none
def zeroA (t : TypeId) : Option AV :=
  match P.info? t with
  | some i => match i.zero with | some z => toAV 5 z | none => none
  | none => none

def setR : List AV → Nat → List AV → List AV
  | l, _, [] => l
  | l, o, v :: r => setR (l.set o v) (o + 1) r
def fillA (place : Nat → Option (Nat × Nat)) : List AV → List (Nat × AV) → Option (List AV)
  | cells, [] => some cells
  | cells, (i, v) :: rest =>
    match place i with
    | none => none
    | some (off, size) => cond (Nat.beq v.cells.length size && Nat.ble (off + v.cells.length) cells.length) (fillA place (setR cells off v.cells) rest) none
def placesA : List Field → Option (List (Nat × Nat))
  | [] => some []
  | f :: fs => match P.info? f.type, placesA fs with | some i, some r => some ((f.offset, i.size) :: r) | _, _ => none
def builtA (t : TypeId) (parts : List (Nat × AV)) : Option (List AV) :=
  match zeroA P t, P.underlying t with
  | some z, some (.array _ e) => match szT P e with | some s => fillA (fun i => some (i * s, s)) z.cells parts | none => none
  | some z, some (.struct fields) => match placesA P fields.toList with | some places => fillA (fun i => places[i]?) z.cells parts | none => none
  | _, _ => none
def partsA (ρ : Operand → Option AV) : List (Nat × Operand) → Option (List (Nat × AV))
  | [] => some []
  | (i, x) :: r => match ρ x, partsA ρ r with | some v, some l => some ((i, v) :: l) | _, _ => none
def opsA (ρ : Operand → Option AV) : List Operand → Option (List AV)
  | [] => some []
  | x :: r => match ρ x, opsA ρ r with | some v, some l => some (v :: l) | _, _ => none
def partA (t : TypeId) (l : List AV) (off : Nat) : Option AV :=
  match aggT P t with
  | some true => match szT P t with | some s => some (.agg ((l.drop off).take s)) | none => none
  | some false => l[off]?
  | none => none
def oneAll : List AV → Bool
  | [] => true
  | a :: l => a.one && oneAll l
def loadA (H : Heap) (t : TypeId) (i o : Nat) : Option AV :=
  match H[i]? with
  | none => none
  | some b =>
    match aggT P t with
    | some true => match szT P t with | some s => cond (Nat.ble (o + s) b.cells.length) (some (.agg ((b.cells.drop o).take s))) none | none => none
    | some false => b.cells[o]?
    | none => none
def storeA (H : Heap) (t : TypeId) (i o : Nat) (v : AV) : Option Heap :=
  match H[i]? with
  | none => none
  | some b =>
    match szT P t with
    | some s => cond (b.rw && Nat.beq v.cells.length s && Nat.ble (o + s) b.cells.length && oneAll v.cells) (some (H.set i { b with cells := setR b.cells o v.cells })) none
    | none => none
def zeros (z : List AV) (n : Nat) : List AV := (List.range n).map fun i => z.getD (i % z.length) (.tup [])
def intBin (op : BinOp) (k : IntKind) (a : Int) (k' : IntKind) (b : Int) : Option AV :=
  match op with
  | .shl => cond (ilt b 0) none (some (.int k (k.wrap (a * 2 ^ (min b.toNat k.bits)))))
  | .shr => cond (ilt b 0) none (some (.int k (a.fdiv (2 ^ (min b.toNat k.bits)))))
  | op => cond (decide (k = k'))
    (match op with
    | .add => some (.int k (k.wrap (a + b)))
    | .sub => some (.int k (k.wrap (a - b)))
    | .mul => some (.int k (k.wrap (a * b)))
    | .quo => cond (ieq b 0) none (some (.int k (k.wrap (a.tdiv b))))
    | .rem => cond (ieq b 0) none (some (.int k (a.tmod b)))
    | .and => some (.int k (k.wrap ((a % 2 ^ k.bits).toNat &&& (b % 2 ^ k.bits).toNat : Nat)))
    | .or => some (.int k (k.wrap ((a % 2 ^ k.bits).toNat ||| (b % 2 ^ k.bits).toNat : Nat)))
    | .xor => some (.int k (k.wrap ((a % 2 ^ k.bits).toNat ^^^ (b % 2 ^ k.bits).toNat : Nat)))
    | .andNot => some (.int k (k.wrap ((a % 2 ^ k.bits).toNat &&& (2 ^ k.bits - 1 - (b % 2 ^ k.bits).toNat) : Nat)))
    | .eql => some (.bool (ieq a b))
    | .neq => some (.bool (!ieq a b))
    | .lss => some (.bool (ilt a b))
    | .leq => some (.bool (ile a b))
    | .gtr => some (.bool (ilt b a))
    | .geq => some (.bool (ile b a))
    | _ => none) none
def floatBin (op : BinOp) (a b : Nat) : Option AV :=
  match op with
  | .add => cond ex none (some (.float (fadd a b)))
  | .sub => cond ex none (some (.float (fsub a b)))
  | .mul => cond ex none (some (.float (fmul a b)))
  | .quo => cond ex none (some (.float (fdiv a b)))
  | .eql => some (.bool (feq a b))
  | .neq => some (.bool (!feq a b))
  | .lss => some (.bool (flt a b))
  | .leq => some (.bool (fle a b))
  | .gtr => some (.bool (flt b a))
  | .geq => some (.bool (fle b a))
  | _ => none
/-- '==' at a type. -/
def eqA : Nat → TypeId → AV → AV → Option Bool
  | 0, _, _, _ => none
  | d + 1, t, x, y =>
    match P.underlying t, x, y with
    | some .bool, .bool a, .bool b => some (a == b)
    | some (.int _), .int k a, .int k' b => cond (decide (k = k')) (some (ieq a b)) none
    | some (.float _), .float a, .float b => some (feq a b)
    | some (.complex _), .complex a b, .complex a' b' => some (feq a a' && feq b b')
    | some (.pointer _), .ptr none, .ptr b => some b.isNone
    | some (.pointer _), .ptr (some _), .ptr none => some false
    | some (.interface _), .nilIface, .iface _ _ => some false
    | some (.interface _), .iface _ _, .nilIface => some false
    | some (.slice _), .slice none _ _, .slice b _ _ => some b.isNone
    | some (.slice _), .slice (some _) _ _, .slice none _ _ => some false
    | some (.struct fields), .agg xs, .agg ys => cond (P.stoodInHeld t) none (eqFieldsA (fun u a b => eqA d u a b) xs ys fields.toList)
    | _, _, _ => none
where eqFieldsA (eq : TypeId → AV → AV → Option Bool) (xs ys : List AV) : List Field → Option Bool
  | [] => some true
  | f :: fs => cond (f.name == "_") none
    (match partA P f.type xs f.offset, partA P f.type ys f.offset with
    | some a, some b => match eq f.type a b, eqFieldsA eq xs ys fs with | some r, some s => some (r && s) | _, _ => none
    | _, _ => none)
def binA (op : BinOp) (t : TypeId) (x y : AV) : Option AV :=
  match x, y with
  | .int k a, .int k' b => intBin op k a k' b
  | .float a, .float b => floatBin ex op a b
  | .complex a b, .complex c d =>
    match op with
    | .eql => some (.bool (feq a c && feq b d))
    | .neq => some (.bool (!(feq a c && feq b d)))
    | _ => none
  | .agg xs, .agg ys =>
    cond (P.eqGuardType P.depth t) none
    (match op with
    | .eql => match eqA P 8 t (.agg xs) (.agg ys) with | some b => some (.bool b) | none => none
    | .neq => match eqA P 8 t (.agg xs) (.agg ys) with | some b => some (.bool (!b)) | none => none
    | _ => none)
  | .bool a, .bool b => eqTop op t (.bool a) (.bool b)
  | .ptr a, .ptr b => eqTop op t (.ptr a) (.ptr b)
  | .slice a m n, .slice b k l => eqTop op t (.slice a m n) (.slice b k l)
  | .iface u a, .nilIface => eqTop op t (.iface u a) .nilIface
  | .nilIface, .iface u a => eqTop op t .nilIface (.iface u a)
  | _, _ => none
where eqTop (op : BinOp) (t : TypeId) (x y : AV) : Option AV :=
    match op with
    | .eql => match eqA P 8 t x y with | some b => some (.bool b) | none => none
    | .neq => match eqA P 8 t x y with | some b => some (.bool (!b)) | none => none
    | _ => none
def unA (op : UnOp) (x : AV) : Option AV :=
  match op, x with
  | .neg, .float a => some (.float (cond ex (Op.negFloat .f64 a) (fneg a)))
  | .neg, .complex a b => some (.complex (cond ex (Op.negFloat .f64 a) (fneg a)) (cond ex (Op.negFloat .f64 b) (fneg b)))
  | .neg, .int k n => some (.int k (k.wrap (0 - n)))
  | .not, .bool b => some (.bool (!b))
  | _, _ => none
def convA (src dst : TypeId) (x : AV) : Option AV :=
  match P.underlying src, P.underlying dst, x with
  | some _, some (.int k), .int _ n => some (.int k (k.wrap n))
  | some _, some (.float .f64), .int _ n => some (.float (FloatKind.f64.nearest n))
  | some _, some (.float .f64), .float a => some (.float a)
  | some _, some (.complex .f64), .complex a b => some (.complex a b)
  | _, _, _ => none
def offA (s : TypeId) (f : Nat) : Option (Nat × TypeId) :=
  match P.underlying s with
  | some (.struct fields) => match fields.toList[f]? with | some x => some (x.offset, x.type) | none => none
  | _ => none
def ixA : AV → Option Nat
  | .int _ (.ofNat n) => some n
  | _ => none
/-- The bounds of 'x[low:high]', where they are fit. -/
def boundsA (len cap : Nat) (low high max : Option AV) : Option (Nat × Nat × Nat) :=
  match (match max with | some v => ixA v | none => some cap) with
  | none => none
  | some m =>
    match (match high with | some v => ixA v | none => some len) with
    | none => none
    | some h =>
      match (match low with | some v => ixA v | none => some 0) with
      | none => none
      | some l => cond (Nat.ble l h && Nat.ble h m && Nat.ble m cap && (high.isSome || !max.isSome)) (some (l, h, m)) none
def optA (ρ : Operand → Option AV) : Option Operand → Option (Option AV)
  | none => some none
  | some x => match ρ x with | some v => some (some v) | none => none

def stepOp (o : Op) (ρ : Operand → Option AV) (H : Heap) : Option Step :=
  match o with
  | .move x => match ρ x with | some v => some (.ro v) | none => none
  | .assign x => match ρ x with | some v => some (.ro v) | none => none
  | .alloc elem => match zeroA P elem with | some z => some (.newP ⟨z.cells, elem, true⟩) | none => none
  | .box elem x => match ρ x with | some v => some (.newP ⟨v.cells, elem, true⟩) | none => none
  | .build t parts => match partsA ρ parts.toList with
    | some ps => match builtA P t ps with | some l => some (.ro (.agg l)) | none => none
    | none => none
  | .buildSlice t len parts => match P.underlying t with
    | some (.slice elem) => match partsA ρ parts.toList, szT P elem, zeroA P elem with
      | some ps, some s, some z => cond (Nat.ble (len * s) 1024 && Nat.blt 0 (len * s) && Nat.blt 0 z.cells.length)
        (match fillA (fun i => some (i * s, s)) (zeros z.cells (len * s)) ps with | some l => some (.newS ⟨l, elem, true⟩ len len) | none => none) none
      | _, _, _ => none
    | _ => none
  | .load t x => match ρ x with
    | some (.ptr (some p)) => match loadA P H t p.1 p.2 with | some v => some (.ro v) | none => none
    | _ => none
  | .store t x y => match ρ x, ρ y with
    | some (.ptr (some p)), some v => match storeA P H t p.1 p.2 v with | some H' => some (.wr H') | none => none
    | _, _ => none
  | .nilCheck x => match ρ x with
    | some (.ptr (some p)) => some (.ro (.ptr (some p)))
    | some (.func f l r) => some (.ro (.func f l r))
    | _ => none
  | .binOp op t x y _ => match ρ x, ρ y with
    | some a, some b => match binA P ex op t a b with | some v => some (.ro v) | none => none
    | _, _ => none
  | .unOp op _ x => match ρ x with
    | some a => match unA ex op a with | some v => some (.ro v) | none => none
    | none => none
  | .convert src dst x => match ρ x with
    | some a => match convA P src dst a with | some v => some (.ro v) | none => none
    | none => none
  | .makeFunc (.func f) first captured => match opsA ρ first.toList, opsA ρ captured.toList with
    | some l, some r => some (.ro (.func f l r))
    | _, _ => none
  | .fieldAddr s x f => match ρ x, offA P s f with
    | some (.ptr (some p)), some (o, t) => match szT P t with
      | some n => cond (Nat.blt 0 n) (some (.ro (.ptr (some (p.1, p.2 + o))))) none
      | none => none
    | _, _ => none
  | .field s x f => match ρ x, offA P s f with
    | some (.agg l), some (o, t) => match partA P t l o with | some v => some (.ro v) | none => none
    | _, _ => none
  | .indexAddr t x ix => match P.underlying t, ρ x, ρ ix with
    | some (.slice elem), some (.slice (some p) len _), some iv => match ixA iv, szT P elem with
      | some n, some s => cond (Nat.blt n len) (some (.ro (.ptr (some (p.1, p.2 + n * s))))) none
      | _, _ => none
    | some (.array len elem), some (.ptr (some p)), some iv => match ixA iv, szT P elem with
      | some n, some s => cond (Nat.blt n len) (some (.ro (.ptr (some (p.1, p.2 + n * s))))) none
      | _, _ => none
    | _, _, _ => none
  | .index t x ix => match P.underlying t, ρ x, ρ ix with
    | some (.array len elem), some (.agg l), some iv => match ixA iv, szT P elem with
      | some n, some s => cond (Nat.blt n len) (match partA P elem l (n * s) with | some v => some (.ro v) | none => none) none
      | _, _ => none
    | _, _, _ => none
  | .slice t x low high max => match P.underlying t, ρ x, optA ρ low, optA ρ high, optA ρ max with
    | some (.slice elem), some (.slice (some p) len cap), some lo, some hi, some mx => match boundsA len cap lo hi mx, szT P elem with
      | some (l, h, m), some s => some (.ro (.slice (some (p.1, cond (Nat.beq m l) p.2 (p.2 + l * s))) (h - l) (m - l)))
      | _, _ => none
    | some (.array n elem), some (.ptr (some p)), some lo, some hi, some mx => match boundsA n n lo hi mx, szT P elem with
      | some (l, h, m), some s => some (.ro (.slice (some (p.1, cond (Nat.beq m l) p.2 (p.2 + l * s))) (h - l) (m - l)))
      | _, _ => none
    | _, _, _, _, _ => none
  | .extract x i => match ρ x with
    | some (.tup l) => match l[i]? with | some v => some (.ro v) | none => none
    | _ => none
  | _ => none
end defs

section
variable {P : Program} {ex : Bool} {μ : Nat → Option Nat}

theorem cond_some {α : Type} {b : Bool} {x y : Option α} {r : α} (h : cond b x y = some r) (hy : y = none) : b = true ∧ x = some r := by
  cases b
  · rw [hy] at h; cases h
  · exact ⟨rfl, h⟩
theorem cond_some' {α : Type} {b : Bool} {x y : Option α} {r : α} (h : cond b x y = some r) (hx : x = none) : b = false ∧ y = some r := by
  cases b
  · exact ⟨rfl, h⟩
  · rw [hx] at h; cases h

def setV : List Value → Nat → List Value → List Value
  | l, _, [] => l
  | l, o, v :: r => setV (l.set o v) (o + 1) r
theorem setR_rel : ∀ {r : List AV} {rs : List Value} (_ : VRels ex μ r rs) {l : List AV} {vs : List Value} (_ : VRels ex μ l vs) (o : Nat), VRels ex μ (setR l o r) (setV vs o rs)
  | [], rs, h, l, vs, h', o => by rw [VRels.nil_iff.1 h]; exact h'
  | a :: r, rs, h, l, vs, h', o => by
    obtain ⟨v, q, rfl, h1, h2⟩ := h.uncons
    exact setR_rel h2 (h'.set h1 o) (o + 1)
theorem setV_length : ∀ (r l : List Value) (o : Nat), (setV l o r).length = l.length
  | [], _, _ => rfl
  | v :: r, l, o => by simp only [setV, setV_length r]; simp
theorem foldl_set (off : Nat) : ∀ (vs : List Value) (k : Nat) (cells : Array Value),
    (List.foldl (fun (cs : Array Value) (x : Value × Nat) => cs.setIfInBounds (off + x.2) x.1) cells (vs.zipIdx k)).toList = setV cells.toList (off + k) vs
  | [], k, cells => by simp [setV]
  | v :: vs, k, cells => by
    simp only [List.zipIdx_cons, List.foldl_cons, setV]
    rw [foldl_set off vs (k + 1)]
    simp [Nat.add_assoc]
theorem foldl_set0 (off : Nat) (vs cells : Array Value) :
    (vs.zipIdx.foldl (fun cs (c, j) => cs.setIfInBounds (off + j) c) cells).toList = setV cells.toList off vs.toList := by
  rw [← Array.foldl_toList, Array.toList_zipIdx]
  exact foldl_set off vs.toList 0 cells

def PRels (ex : Bool) (μ : Nat → Option Nat) : List (Nat × AV) → List (Nat × Value) → Prop
  | [], vs => vs = []
  | (i, a) :: l, vs => ∃ v r, vs = (i, v) :: r ∧ VRel ex μ a v ∧ PRels ex μ l r
theorem fill_rel (place : Nat → Option (Nat × Nat)) : ∀ (ps : List (Nat × AV)) (qs : List (Nat × Value)), PRels ex μ ps qs → ∀ (l : List AV) (cells : Array Value), VRels ex μ l cells.toList →
    ∀ r, fillA place l ps = some r → ∃ cells', Instr.fill place cells qs = some cells' ∧ VRels ex μ r cells'.toList
  | [], qs, h, l, cells, hl, r, e => by
    simp only [PRels] at h; subst h
    simp only [fillA, Option.some.injEq] at e; subst e
    exact ⟨cells, rfl, hl⟩
  | (i, a) :: ps, qs, h, l, cells, hl, r, e => by
    simp only [PRels] at h
    obtain ⟨v, q, rfl, hv, hq⟩ := h
    simp only [fillA] at e
    cases hp : place i with
    | none => simp [hp] at e
    | some os =>
      obtain ⟨off, size⟩ := os
      simp only [hp] at e
      obtain ⟨hc, e⟩ := cond_some e rfl
      simp only [Bool.and_eq_true, Nat.ble_eq] at hc
      have hbeq := Nat.eq_of_beq_eq_true hc.1
      have hlen : v.cells.size = a.cells.length := by rw [← hv.cells.length]; simp
      have hlen2 : cells.size = l.length := by rw [← hl.length]; simp
      simp only [Instr.fill, hp]
      rw [if_neg (by simp only [Bool.or_eq_true, decide_eq_true_eq]; omega)]
      exact fill_rel place ps q hq _ _ (by rw [foldl_set0]; exact setR_rel hv.cells hl off) r e

theorem zero_run {t : TypeId} {z : AV} (h : zeroA P t = some z) : ∃ i v, P.info? t = some i ∧ i.zero = some v ∧ VRel ex μ z v := by
  unfold zeroA at h
  split at h
  · rename_i i hi
    split at h
    · rename_i v hv
      exact ⟨i, v, hi, hv, toAV_rel 5 v z h⟩
    · cases h
  · cases h
theorem run_zero (w : World) {t : TypeId} {i : TypeInfo} {v : Value} (hi : P.info? t = some i) (hz : i.zero = some v) : (zeroValue t).run P w = .ok v w := by
  simp [zeroValue, typeInfo, hi, hz]
theorem szT_run (w : World) {t : TypeId} {n : Nat} (h : szT P t = some n) : (sizeOf t).run P w = .ok n w := by
  unfold szT at h
  split at h
  · rename_i i hi; cases h; simp [sizeOf, typeInfo, hi]
  · cases h
theorem aggT_run (w : World) {t : TypeId} {b : Bool} (h : aggT P t = some b) : (isAgg t).run P w = .ok b w := by
  unfold aggT at h
  split at h
  · rename_i d hd
    cases h
    unfold isAgg
    rw [Sem.run_bind, run_underlying hd w]
    cases d <;> rfl
  · cases h
theorem places_eq : ∀ (fs : List Field) (l : List (Nat × Nat)), placesA P fs = some l → fs.mapM (fun f => (P.info? f.type).map fun i => (f.offset, i.size)) = some l
  | [], l, h => by simp only [placesA, Option.some.injEq] at h; subst h; rfl
  | f :: fs, l, h => by
    simp only [placesA] at h
    split at h
    · rename_i i r hi hr
      cases h
      simp [List.mapM_cons, hi, places_eq fs r hr]
    · cases h
theorem built_rel {t : TypeId} {ps : List (Nat × AV)} {qs : List (Nat × Value)} {l : List AV} (hp : PRels ex μ ps qs) (h : builtA P t ps = some l) :
    ∃ cells, P.built t qs = some cells ∧ VRels ex μ l cells.toList := by
  unfold builtA at h
  split at h
  · rename_i z n e hz hu
    obtain ⟨i, v, hi, hv, hr⟩ := zero_run (ex := ex) (μ := μ) hz
    split at h
    · rename_i s hs
      unfold szT at hs
      split at hs
      · rename_i ie hie
        cases hs
        obtain ⟨c, hc, hrel⟩ := fill_rel _ ps qs hp _ _ hr.cells l h
        exact ⟨c, by simp only [Program.built, hi, hu, hv, hie]; exact hc, hrel⟩
      · cases hs
    · cases h
  · rename_i z fields hz hu
    obtain ⟨i, v, hi, hv, hr⟩ := zero_run (ex := ex) (μ := μ) hz
    split at h
    · rename_i pl hpl
      obtain ⟨c, hc, hrel⟩ := fill_rel _ ps qs hp _ _ hr.cells l h
      refine ⟨c, ?_, hrel⟩
      simp only [Program.built, hi, hu, hv, places_eq _ _ hpl]
      simpa using hc
    · cases h
  · cases h

theorem part_run (w : World) {t : TypeId} {l : List AV} {cs : Array Value} {off : Nat} {a : AV} (hl : VRels ex μ l cs.toList) (h : partA P t l off = some a) :
    ∃ v, (part t cs off).run P w = .ok v w ∧ VRel ex μ a v := by
  unfold partA at h
  split at h
  · rename_i ha
    split at h
    · rename_i s hs
      cases h
      refine ⟨.agg (cs.extract off (off + s)), ?_, ?_⟩
      · simp [part, aggT_run w ha, szT_run w hs]
      · simp only [VRel]
        refine ⟨_, rfl, ?_⟩
        rw [Array.toList_extract]
        simp only [List.extract_eq_take_drop, Nat.add_sub_cancel_left]
        exact (hl.drop off).take s
    · cases h
  · rename_i ha
    obtain ⟨v, hv, hr⟩ := hl.get h
    exact ⟨v, by simp [part, aggT_run w ha, show cs[off]? = some v by simpa using hv], hr⟩
  · cases h

theorem addr_add (c o n : Nat) : (⟨c, o, none⟩ : Addr).add n = ⟨c, o + n, none⟩ := by
  unfold Addr.add; split <;> simp_all
theorem load_run {w : World} {H : Heap} {t : TypeId} {i o c : Nat} {a : AV} (hH : HRel ex μ H w) (hc : μ i = some c) (h : loadA P H t i o = some a) :
    ∃ v, (loadVar t ⟨c, o, none⟩).run P w = .ok v w ∧ VRel ex μ a v := by
  unfold loadA at h
  split at h
  · cases h
  · rename_i b hb
    obtain ⟨arr, fz, hw, hr, _⟩ := hH.blk i b c hb hc
    split at h
    · rename_i ha
      split at h
      · rename_i s hs
        obtain ⟨hle, h⟩ := cond_some h rfl
        simp only [Nat.ble_eq] at hle
        cases h
        have hlen : arr.size = b.cells.length := by rw [← hr.length]; simp
        have hl := run_loadCells_list (P := P) w ⟨c, o, none⟩ ((arr.toList.drop o).take s) (fun j v hv => by
          rw [addr_add, cell_of_row w c _ arr b.ty fz hw]
          rw [List.getElem?_take] at hv
          split at hv
          · rw [List.getElem?_drop] at hv; simpa using hv
          · cases hv)
        rw [show ((arr.toList.drop o).take s).length = s by simp; omega] at hl
        exact ⟨.agg ((arr.toList.drop o).take s).toArray, by simp [loadVar, aggT_run w ha, szT_run w hs, hl], by simp only [VRel]; exact ⟨_, rfl, by simpa using (hr.drop o).take s⟩⟩
      · cases h
    · rename_i ha
      obtain ⟨v, hv, hr'⟩ := hr.get h
      refine ⟨v, ?_, hr'⟩
      have : w.cell? ⟨c, o, none⟩ = some v := by rw [cell_of_row w c _ arr b.ty fz hw]; simpa using hv
      simp [loadVar, aggT_run w ha, load, Sem.run, this]
    · cases h

theorem run_storeCells_at (c : Nat) (t : TypeId) (o : Nat) : ∀ (vs : List Value) (i : Nat) (cur : Array Value) (w : World), w.heap[c]? = some (.cells cur t (0, 0)) → o + i + vs.length ≤ cur.size → (∀ v ∈ vs, v.oneCell' = true) →
    ∃ arr : Array Value, (storeCells ⟨c, o, none⟩ vs i).run P w = .ok () (w.setRow c arr) ∧ arr.toList = setV cur.toList (o + i) vs
  | [], i, cur, w, hw, _, _ => by
    refine ⟨cur, ?_, rfl⟩
    have : w.setRow c cur = w := by
      unfold World.setRow
      have hlt := (Array.getElem?_eq_some_iff.1 hw).1
      have hv := (Array.getElem?_eq_some_iff.1 hw).2
      cases w with
      | mk heap tape drawn os output =>
        simp only [World.mk.injEq, and_self, and_true]
        apply Array.ext
        · simp
        · intro j h1 h2
          rw [Array.getElem_modify]
          split
          · rename_i hj; subst hj; simp only at hv ⊢; rw [hv]
          · rfl
    rw [this]; rfl
  | v :: vs, i, cur, w, hw, hle, h1 => by
    simp only [List.length_cons] at hle
    have hcell : w.cell? ((⟨c, o, none⟩ : Addr).add i) = some cur[o + i] := by
      rw [addr_add, cell_of_row w c _ cur t _ hw]; exact Array.getElem?_eq_getElem (by omega)
    have hfz : w.frozen? ((⟨c, o, none⟩ : Addr).add i) = false := by rw [addr_add]; exact frozen_of_row w c _ cur t hw
    have hst : (store ((⟨c, o, none⟩ : Addr).add i) v).run P w = .ok () (w.setCell ((⟨c, o, none⟩ : Addr).add i) v) := by
      rw [run_store P w _ v _ (h1 v (by simp)), hcell]; simp [hfz]
    have hset : w.setCell ((⟨c, o, none⟩ : Addr).add i) v = w.setRow c (cur.setIfInBounds (o + i) v) := by
      rw [addr_add]; exact setCell_eq_setRow w c (o + i) cur t _ v hw
    obtain ⟨arr, hrun, harr⟩ := run_storeCells_at c t o vs (i + 1) (cur.setIfInBounds (o + i) v) (w.setRow c (cur.setIfInBounds (o + i) v)) (setRow_heap w c cur _ t _ hw) (by simp; omega) (fun u hu => h1 u (by simp [hu]))
    refine ⟨arr, ?_, ?_⟩
    · simp only [storeCells, Sem.run_bind, hst, Result.andThen_ok, hset, hrun, setRow_setRow]
    · rw [harr]; simp [setV, Nat.add_assoc]
theorem oneAll_rel : ∀ {l : List AV} {vs : List Value}, VRels ex μ l vs → oneAll l = true → ∀ v ∈ vs, v.oneCell' = true
  | [], vs, h, _ => by rw [VRels.nil_iff.1 h]; simp
  | a :: l, vs, h, h1 => by
    obtain ⟨v, q, rfl, hv, hq⟩ := h.uncons
    simp only [oneAll, Bool.and_eq_true] at h1
    intro u hu
    rcases List.mem_cons.1 hu with rfl | hu
    · exact (hv.one h1.1).1
    · exact oneAll_rel hq h1.2 u hu
theorem store_run {w : World} {H H' : Heap} {t : TypeId} {i o c : Nat} {a : AV} {v : Value} (hH : HRel ex μ H w) (hc : μ i = some c) (hv : VRel ex μ a v) (h : storeA P H t i o a = some H') :
    ∃ w', (storeVar t ⟨c, o, none⟩ v).run P w = .ok () w' ∧ Goes ex w H μ w' H' μ := by
  unfold storeA at h
  split at h
  · cases h
  · rename_i b hb
    obtain ⟨arr, fz, hw, hr, hz⟩ := hH.blk i b c hb hc
    split at h
    · rename_i s hs
      obtain ⟨hcc, h⟩ := cond_some h rfl
      simp only [Bool.and_eq_true, Nat.ble_eq] at hcc
      obtain ⟨⟨⟨hrw, hsz⟩, hle⟩, hone⟩ := hcc
      have hsz := Nat.eq_of_beq_eq_true hsz
      cases h
      have hf := hz hrw; subst hf
      have hlen : v.cells.size = a.cells.length := by rw [← hv.cells.length]; simp
      have hlen2 : arr.size = b.cells.length := by rw [← hr.length]; simp
      obtain ⟨arr', hrun, harr⟩ := run_storeCells_at (P := P) c b.ty o v.cells.toList 0 arr w hw (by simp; omega) (oneAll_rel hv.cells hone)
      refine ⟨_, ?_, Goes.write hH hb hrw hc hw (by rw [harr]; exact setR_rel hv.cells hr o)⟩
      simp only [storeVar, Sem.run_bind, szT_run w hs, Result.andThen_ok]
      rw [if_neg (by omega)]
      exact hrun
    · cases h
end
end Go.Sim
