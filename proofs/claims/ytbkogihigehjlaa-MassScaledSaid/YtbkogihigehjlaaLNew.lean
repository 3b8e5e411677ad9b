/- What is new, what is written, what is called. -/
import Derived.Test.YtbkogihigehjlaaLSteps
namespace Go.Lst
section sound
variable {P : Program} {ex : Bool} {M : EnvM}

theorem zeros_rel {μ : Mu} {z : List AV} {zv : Array Value} (hz : VRels ex μ z zv.toList) (n : Nat) (hp : 0 < zv.size) : VRels ex μ (zeros z n) ((Array.range n).map (zv[· % zv.size]!)).toList := by
  unfold zeros
  simp only [Array.toList_map, Array.toList_range]
  have hlen : zv.size = z.length := by rw [← hz.length]; simp
  have : ∀ (l : List Nat), VRels ex μ (l.map fun i => z.getD (i % z.length) (.tup [])) (l.map fun x => zv[x % zv.size]!) := by
    intro l
    induction l with
    | nil => exact VRels.nil
    | cons i l ih =>
      refine VRels.cons ?_ ih
      have hi : i % zv.size < zv.size := Nat.mod_lt _ hp
      have h1 := hz.getD (i % z.length)
      rw [← hlen] at h1 ⊢
      rw [List.getD_eq_getElem?_getD, List.getD_eq_getElem?_getD] at h1
      show VRel ex μ (z.getD (i % zv.size) (.tup [])) (zv[i % zv.size]!)
      rw [List.getD_eq_getElem?_getD]
      simpa [hi] using h1
  exact this _

theorem made_rel {μ : Mu} {z : List AV} {zv : Array Value} (hz : VRels ex μ z zv.toList) {s n : Nat} (hs : zv.size = s) (_hp : 0 < s) (h1 : oneAll z = true) : CRel ex μ (.sym n s (fun _ => z)) (madeCells zv (n * s)).toList := by
  have hone := oneAll_rel hz h1
  have hlen : (madeCells zv (n * s)).toList.length = n * s := by simp [madeCells]
  refine ⟨by omega, fun i hi => ?_⟩
  have hm : (i + 1) * s ≤ n * s := Nat.mul_le_mul_right _ hi
  rw [Nat.add_mul, Nat.one_mul] at hm
  have e : ((madeCells zv (n * s)).toList.drop (i * s)).take s = zv.toList := by
    apply List.ext_getElem?
    intro k
    rw [List.getElem?_take]
    split
    · rename_i hk
      rw [List.getElem?_drop]
      have hlt : i * s + k < n * s := by omega
      have hmod : (i * s + k) % s = k := by rw [Nat.add_comm, Nat.add_mul_mod_self_right, Nat.mod_eq_of_lt hk]
      have hks : k < zv.size := by omega
      simp only [madeCells, Array.toList_map, Array.toList_range, List.getElem?_map, List.getElem?_range hlt, Option.map_some, hs, hmod]
      simp [hks]
    · rw [List.getElem?_eq_none (by simp; omega)]
  rw [e]
  exact ⟨hz, hone⟩
theorem step_new {o : Oper} {ρ : Operand → Option AV} {H : Heap} {b : Blk} {m : Option (Nat × Nat × Nat)} {ob : Ob} (h : stepOp P ex o.op ρ H = some (ob, .new b m)) (hok : ob.ok = true) : OpNew P ex o ρ b m := by
  obtain ⟨dst, op, ty, pos, after, guard⟩ := o
  simp only at h
  cases op <;> simp only [stepOp] at h <;> try (cases h; done)
  case alloc elem =>
    split at h
    · rename_i z hz
      cases h
      refine ⟨rfl, fun μ a w ho => ?_⟩
      obtain ⟨i, v, hi, hv, hr⟩ := zeroC_run (ex := ex) (μ := μ) hz
      refine ⟨v.cells, hr, trivial, ?_⟩
      refine value_run (s := Instr.alloc elem true (.tuple #[])) ?_
      simp [Instr.alloc, run_zero w hi hv, newVar, newRow, mkV]
    · cases h
  case box elem x =>
    split at h
    · rename_i u hu
      split at h
      · rename_i cs hcs
        cases h
        refine ⟨rfl, fun μ a w ho => ?_⟩
        have hx := ho x (by simp [Op.operands]) _ hu
        refine ⟨(a.eval x).cells, hx.cells hcs, trivial, ?_⟩
        refine value_run (s := Instr.box elem (a.eval x)) ?_
        simp [Instr.box, newVar, newRow, mkV]
      · cases h
    · cases h
  case buildSlice t len parts =>
    split at h
    · rename_i elem hu
      split at h
      · rename_i ps s z hps hs hz
        cases hc : (Nat.ble (len * s) 1024 && Nat.blt 0 (len * s) && Nat.blt 0 z.length) <;> rw [hc] at h
        · rw [cond_false] at h
          obtain ⟨h0, h⟩ := cond_some h rfl
          have h0 := beq_eq h0
          subst h0
          split at h
          · cases h
            refine ⟨rfl, fun μ a w ho => ?_⟩
            have hpr := parts_rel (ex := ex) (μ := μ) (ρ := ρ) (a := a) parts.toList [] (fun x hx => ho x (by simpa [Op.operands] using hx)) hps
            simp only [PRels] at hpr
            refine ⟨#[], (by show VRels ex μ [] _; exact VRels.nil), ⟨Nat.le_refl _, Nat.zero_le _, by simp⟩, ?_⟩
            refine value_run (s := Instr.buildSlice t 0 _) ?_
            have hp0 : parts.toList = [] := by
              cases hpl : parts.toList with
              | nil => rfl
              | cons x r => rw [hpl] at hpr; simp at hpr
            have hp1 : parts = #[] := Array.toList_inj.1 (by simpa using hp0)
            subst hp1
            simp [Instr.buildSlice, run_underlying hu, szT_run w hs, Instr.fill, newRow, mkV, Array.range_zero']
          · cases h
        · rw [cond_true] at h
          split at h
          · rename_i cells hf
            cases h
            simp only [Bool.and_eq_true, Nat.ble_eq, Nat.blt_eq] at hc
            obtain ⟨⟨h1, h2⟩, h3⟩ := hc
            refine ⟨rfl, fun μ a w ho => ?_⟩
            obtain ⟨i, v, hi, hv, hr⟩ := zeroC_run (ex := ex) (μ := μ) hz
            have hlen : v.cells.size = z.length := by rw [← hr.length]; simp
            obtain ⟨arr, ha, hra⟩ := fill_rel (ex := ex) (μ := μ) (fun i => some (i * s, s)) ps _ (parts_rel parts.toList ps (fun x hx => ho x (by simpa [Op.operands] using hx)) hps) _ _ (zeros_rel hr (len * s) (by omega)) _ hf
            have hfl : ∀ (ps : List (Nat × AV)) (l r : List AV), fillA (fun i => some (i * s, s)) l ps = some r → r.length = l.length := by
              intro ps
              induction ps with
              | nil => intro l r h; simp only [fillA, Option.some.injEq] at h; rw [h]
              | cons p ps ih =>
                intro l r h
                obtain ⟨i, v⟩ := p
                simp only [fillA] at h
                split at h
                · obtain ⟨_, h⟩ := cond_some h rfl
                  have hset : ∀ (cs l : List AV) (o : Nat), (setR l o cs).length = l.length := by
                    intro cs
                    induction cs with
                    | nil => intro l o; rfl
                    | cons c cs ih => intro l o; simp only [setR]; rw [ih]; simp
                  rw [ih _ _ h, hset]
                · cases h
            have hsz : arr.size = len * s := by
              have e1 : arr.toList.length = cells.length := hra.length
              have e2 := hfl _ _ _ hf
              have e3 : (zeros z (len * s)).length = len * s := by simp [zeros]
              simp at e1; omega
            have hln : len ≤ 1024 := by
              have : 0 < s := Nat.pos_of_ne_zero fun e => by subst e; omega
              have := Nat.le_mul_of_pos_right len this
              omega
            refine ⟨arr, hra, ⟨Nat.le_refl _, by simp only [maxN]; omega, hsz.symm⟩, ?_⟩
            refine value_run (s := Instr.buildSlice t len _) ?_
            have e1 : ¬ (len * s > 2 ^ 24) := by omega
            have e2 : ¬ (len * s = 0) := by omega
            simp [Instr.buildSlice, run_underlying hu, szT_run w hs, e1, e2, run_zero w hi hv, ha, newRow, mkV]
          · cases h
      · cases h
    · cases h
  case makeSlice t x y =>
    split at h
    · rename_i elem hu
      split at h
      · rename_i kl l kc c s bytes z hl hcc hs hby hz
        obtain ⟨hc, h⟩ := cond_some h rfl
        cases h
        simp only [Bool.and_eq_true, Nat.blt_eq] at hc
        obtain ⟨hs0, hzl, hone⟩ := hc
        have hzl := beq_eq hzl
        simp only [Ob.ok, Bool.and_eq_true, ile, decide_eq_true_eq] at hok
        obtain ⟨q1, q2, q3, q4⟩ := hok
        refine ⟨rfl, fun μ a w ho => ?_⟩
        obtain ⟨i, v, hi, hv, hr⟩ := zeroC_run (ex := ex) (μ := μ) hz
        have hsz : v.cells.size = s := by rw [← hzl, ← hr.length]; simp
        have hsi : i.size = s := by simpa [szT, hi] using hs
        have hbi : i.bytes = bytes := by simpa [byT, hi] using hby
        have hx := ho x (by simp [Op.operands]) _ hl
        have hy := ho y (by simp [Op.operands]) _ hcc
        simp only [VRel] at hx hy
        refine ⟨madeCells v.cells (c.toNat * s), made_rel hr hsz hs0 hone, ⟨by omega, by simp only [maxN]; omega, by simp [madeCells]⟩, ?_⟩
        refine value_run (s := Instr.makeSlice t (a.eval x) (a.eval y)) ?_
        rw [hx, hy, run_make w t elem i v hu hi hv kl kc l c q1 q2 (by rw [hbi]; exact q3) q4, hsi]
        rfl
      · cases h
    · cases h
  case makeFunc fn f c => cases fn <;> simp only at h <;> (first | (cases h; done) | (split at h <;> cases h))
  all_goals (repeat' (split at h)) <;> first | (cases h; done) | (obtain ⟨_, h⟩ := cond_some h rfl; cases h; done) | (obtain ⟨_, h⟩ := cond_some h rfl; split at h <;> cases h)
theorem store_any {o : Oper} {ρ : Operand → Option AV} {H H' : Heap} {t : TypeId} {x y : Operand} (hop : o.op = .store t x y) {p : Pos} {v : AV} {ob : Ob} (hp : ρ x = some (.ptr (some p))) (hv : ρ y = some v) (hs : storeA P H t p v = some (ob, H')) (hok : ob.ok = true) : OpAny P ex o ρ H (.tup []) H' := by
  obtain ⟨dst, op, ty, pos, after, guard⟩ := o
  simp only at hop; subst hop
  intro μ a w ho hH hd K Q hK
  have hx := ho x (by simp [Op.operands]) _ hp
  have hy := ho y (by simp [Op.operands]) _ hv
  simp only [VRel] at hx
  obtain ⟨c, z, hc, he⟩ := hx
  obtain ⟨w', μ', h1, h2, h3⟩ := store_run hH hd hc hy hs hok
  unfold Oper.wp
  have hrun : (execOp a.eval ⟨dst, .store t x y, ty, pos, after, guard⟩).run P w = .ok .skip w' := by
    refine unit_run (s := Instr.storeAt t (a.eval x) (a.eval y)) ?_
    simp [Instr.storeAt, Instr.sureAddr, he, h1]
  rw [hrun]
  exact hK _ _ μ' VRel.undef h2 h3
theorem bi_run {μ : Mu} (b : Builtin) (ts : Array TypeId) (ty : TypeId) (cs : Array Bool) (args : List AV) (vs : List Value) (r : AV) (w : World) (h : biA P b ts args = some r) (hv : VRels ex μ args vs) :
    ∃ v, (builtin b ts ty cs vs.toArray).run P w = .ok (.value v) w ∧ VRel ex μ r v := by
  unfold biA at h
  split at h
  · cases h
    obtain ⟨v1, r1, rfl, h1, hv⟩ := hv.uncons
    obtain ⟨v2, r2, rfl, h2, hv⟩ := hv.uncons
    rw [VRels.nil_iff.1 hv]
    simp only [VRel] at h1 h2
    obtain ⟨p, rfl, hp⟩ := h1
    obtain ⟨q, rfl, hq⟩ := h2
    exact ⟨.complex .f64 p q, by simp only [builtin, Sem.run_bind]; rw [run_complex]; rfl, by simp only [VRel]; exact ⟨_, _, rfl, hp, hq⟩⟩
  · cases h
    obtain ⟨v1, r1, rfl, h1, hv⟩ := hv.uncons
    rw [VRels.nil_iff.1 hv]
    simp only [VRel] at h1
    obtain ⟨p, q, rfl, hp, hq⟩ := h1
    exact ⟨.float .f64 p, by simp only [builtin, Sem.run_bind]; rw [run_real]; rfl, by simp only [VRel]; exact ⟨_, rfl, hp⟩⟩
  · cases h
    obtain ⟨v1, r1, rfl, h1, hv⟩ := hv.uncons
    rw [VRels.nil_iff.1 hv]
    simp only [VRel] at h1
    obtain ⟨p, q, rfl, hp, hq⟩ := h1
    exact ⟨.float .f64 q, by simp only [builtin, Sem.run_bind]; rw [run_imag]; rfl, by simp only [VRel]; exact ⟨_, rfl, hq⟩⟩
  · rename_i p n c
    split at h
    · rename_i t ht
      split at h
      · rename_i e hu
        cases h
        obtain ⟨v1, r1, rfl, h1, hv⟩ := hv.uncons
        rw [VRels.nil_iff.1 hv]
        obtain ⟨q, k, rfl⟩ : ∃ q k, v1 = .slice q n k := by
          cases p with
          | none => simp only [VRel] at h1; obtain ⟨rfl, rfl, rfl⟩ := h1; exact ⟨_, _, rfl⟩
          | some p => simp only [VRel] at h1; obtain ⟨c, z, _, rfl⟩ := h1; exact ⟨_, _, rfl⟩
        exact ⟨.int .i64 n, by simp [builtin, Builtin.len_, ht, run_underlying hu, goInt], by simp only [VRel]⟩
      · cases h
    · cases h
  · rename_i b g s n lo
    split at h
    · rename_i t ht
      split at h
      · rename_i e hu
        cases h
        obtain ⟨v1, r1, rfl, h1, hv⟩ := hv.uncons
        rw [VRels.nil_iff.1 hv]
        obtain ⟨q, k, rfl⟩ : ∃ q k, v1 = .slice q n k := by simp only [VRel] at h1; obtain ⟨q, k, rfl, _⟩ := h1; exact ⟨_, _, rfl⟩
        exact ⟨.int .i64 n, by simp [builtin, Builtin.len_, ht, run_underlying hu, goInt], by simp only [VRel]⟩
      · cases h
    · cases h
  · rename_i n s f
    split at h
    · rename_i t ht
      split at h
      · rename_i e hu
        cases h
        obtain ⟨v1, r1, rfl, h1, hv⟩ := hv.uncons
        rw [VRels.nil_iff.1 hv]
        obtain ⟨q, k, rfl⟩ : ∃ q k, v1 = .slice q n k := by simp only [VRel] at h1; obtain ⟨q, k, rfl, _⟩ := h1; exact ⟨_, _, rfl⟩
        exact ⟨.int .i64 n, by simp [builtin, Builtin.len_, ht, run_underlying hu, goInt], by simp only [VRel]⟩
      · cases h
    · cases h
  · split at h
    · rename_i t ht
      split at h
      · rename_i e hu
        cases h
        obtain ⟨v1, r1, rfl, h1, hv⟩ := hv.uncons
        rw [VRels.nil_iff.1 hv]
        obtain ⟨q, rfl⟩ : ∃ q, v1 = .slice q 0 0 := by simp only [VRel] at h1; exact h1
        exact ⟨.int .i64 0, by simp [builtin, Builtin.len_, ht, run_underlying hu, goInt], by simp only [VRel]⟩
      · cases h
    · cases h
  · split at h
    · rename_i t ht
      split at h
      · rename_i n e hu
        cases h
        obtain ⟨v1, r1, rfl, h1, hv⟩ := hv.uncons
        rw [VRels.nil_iff.1 hv]
        exact ⟨.int .i64 n, by simp [builtin, Builtin.len_, ht, run_underlying hu, goInt], by simp only [VRel]⟩
      · cases h
    · cases h
  · cases h
    obtain ⟨v1, r1, rfl, h1, hv⟩ := hv.uncons
    obtain ⟨v2, r2, rfl, h2, hv⟩ := hv.uncons
    rw [VRels.nil_iff.1 hv]
    simp only [VRel] at h1 h2
    subst h1; subst h2
    exact ⟨_, by simp only [builtin, Sem.run_bind]; rw [run_max_int2]; rfl, by simp only [VRel]⟩
  · cases h
    obtain ⟨v1, r1, rfl, h1, hv⟩ := hv.uncons
    obtain ⟨v2, r2, rfl, h2, hv⟩ := hv.uncons
    rw [VRels.nil_iff.1 hv]
    simp only [VRel] at h1 h2
    subst h1; subst h2
    exact ⟨_, by simp only [builtin, Sem.run_bind]; rw [run_min_int2]; rfl, by simp only [VRel]⟩
  · cases h


open Go.Sim (FR cn nanb cn_of_not) in
theorem max2_run {x y a b : Nat} (ha : FR false a x) (hb : FR false b y) (w : World) : ∃ r n, (Builtin.max2 (.float .f64 x) (.float .f64 y)).run P w = .ok (.float .f64 r) { w with drawn := w.drawn + n } ∧ FR false (fmax a b) r := by
  have ea : a = cn x := ha.2
  have eb : b = cn y := hb.2
  have ho : Ieee.double.order a b = Ieee.double.order x y := by rw [ea, eb]; exact Go.Sim.order_cn x y
  unfold fmax
  rw [ho]
  unfold Builtin.max2
  simp only [show FloatKind.f64.format = Ieee.double from rfl]
  cases h : Ieee.double.order x y with
  | none => exact Go.Sim.draw_any P w (.nanMinMax .f64 true x y) rfl (Go.Sim.cut_nan x y _) (Go.Sim.cut_lt x y _)
  | some o =>
    cases o with
    | lt => exact ⟨y, 0, rfl, hb⟩
    | gt => exact ⟨x, 0, rfl, ha⟩
    | eq =>
      have hn : nanb x = false := by
        cases hx : nanb x with
        | false => rfl
        | true =>
          exfalso
          rw [← Go.Sim.order_cn, Go.Sim.cn_of_nan hx] at h
          unfold Ieee.Format.order at h
          rw [show Ieee.double.read Go.Sim.qnan = .nan _ _ from rfl, Go.Sim.order_nan_l] at h
          cases h
      rw [ea, cn_of_not hn]
      refine ⟨if (FloatKind.f64.decode x).neg then y else x, 0, rfl, ?_⟩
      cases (FloatKind.f64.decode x).neg
      · exact ⟨ha.1, (cn_of_not hn).symm⟩
      · exact hb
open Go.Sim (FR cn) in
theorem maxL_run {μ : Mu} : ∀ (r : List AV) (vs : List Value) (a m x : Nat) (w : World), maxL a r = some m → FR false a x → VRels false μ r vs →
    ∃ s n, (vs.foldlM Builtin.max2 (.float .f64 x)).run P w = .ok (.float .f64 s) { w with drawn := w.drawn + n } ∧ FR false m s
  | [], vs, a, m, x, w, h, hx, hv => by
    cases h
    rw [VRels.nil_iff.1 hv]
    exact ⟨x, 0, rfl, hx⟩
  | u :: r, vs, a, m, x, w, h, hx, hv => by
    cases u with
    | float b =>
      obtain ⟨v, q, rfl, h1, h2⟩ := hv.uncons
      simp only [VRel] at h1
      obtain ⟨y, rfl, hy⟩ := h1
      obtain ⟨s, n, g1, g2⟩ := max2_run (P := P) hx hy w
      obtain ⟨s', n', g3, g4⟩ := maxL_run r q (fmax a b) m s { w with drawn := w.drawn + n } h g2 h2
      refine ⟨s', n + n', ?_, g4⟩
      simp only [List.foldlM_cons, Sem.run_bind, g1, Result.andThen_ok]
      rw [g3]
      simp only [Nat.add_assoc]
    | _ => simp [maxL] at h
theorem methA_run {t : TypeId} {m : String} {f : FuncId} (h : methA P t m = some f) (v : Value) (n : Nat) (w : World) : (method (n + 1) t v m).run P w = .ok (f, v) w := by
  unfold methA at h
  split at h
  · cases h
  · rename_i i d hp hi hu
    split at h
    · rename_i r hr
      split at h
      · rename_i g hpath hf
        cases h
        unfold method
        simp only [Sem.run_bind, run_typeInfo (w := w) hi, Result.andThen_ok]
        rw [hr]
        simp only [Sem.run_bind, hpath, follow, Sem.run_pure, Result.andThen_ok, hf]
        unfold receiverAt
        simp only [Sem.run_bind, run_underlying hu, Result.andThen_ok]
        cases d <;> first | rfl | exact absurd rfl (hp _)
      · cases h
    · cases h
  · cases h
theorem callM_does (hM : M.Ok P ex) {full : Bool} {o : Oper} {ρ : Operand → Option AV} {H H' : Heap} {hv hv' : HV} {ob : Ob} {v : AV} {g : FuncId} {args : List AV} (hop : ∃ c, o.op = .call c)
    (hcall : ∀ (μ : Mu) (a : Act) (w : World), OpsRel ex μ o.op ρ a → ∃ vs : List Value, VRels ex μ args vs ∧ (execOp a.eval o).run P w = (callFunc g vs.toArray).run P w)
    (h : evCallM M full H hv g args = some (ob, v, H', hv')) (hok : ob.ok = true) : OpDoes P ex full o ρ H v H' := by
  have anyOf : full = true → (∀ (args : Array Value) (w : World), (callFunc g args).run P w = .ok (.enter g args) w) → Sim P ex g (args) H v H' → OpDoes P ex full o ρ H v H' := by
    intro hfull hc hS
    refine .any hfull ?_
    intro μ a w ho hH hd K Q hK
    obtain ⟨vs, hvs, hrun⟩ := hcall μ a w ho
    unfold Oper.wp
    rw [hrun, hc]
    simp only [Oper.upon]
    refine (hS μ vs w hvs hH hd).mono ?_
    rintro e w' ⟨v', μ', rfl, hr, hg, hd'⟩
    exact hK v' w' μ' hr hg hd'
  unfold evCallM at h
  split at h
  · rename_i F hX
    split at h
    · rename_i gd u hv
      cases h
      refine .ro (ro_of_run fun μ a w ho hH => ?_)
      obtain ⟨vs, hvs, hrun⟩ := hcall μ a w ho
      obtain ⟨v', n, h1, h2⟩ := hM.x g F hX _ _ _ hv hok μ vs w hvs
      exact ⟨v', n, by rw [hrun]; exact h1, h2⟩
    · cases h
  · split at h
    · rename_i gd u G hv
      split at hv
      · rename_i F hS
        cases hfl : u.flat with
        | true =>
          rw [hfl, cond_true] at h
          cases h
          rw [Ob.both_ok, Bool.and_eq_true] at hok
          have hR := Sim.frozenR (hM.s g F hS _ _ _ _ hv hok.2) hok.1 hfl
          refine .ro ?_
          intro μ a w ho hH K Q hK
          obtain ⟨vs, hvs, hrun⟩ := hcall μ a w ho
          unfold Oper.wp
          rw [hrun, hM.sc g F hS]
          simp only [Oper.upon]
          refine (hR μ vs w hvs hH).mono ?_
          rintro e w' ⟨v', rfl, hr, hb⟩
          exact hK v' w' hr hb
        | false =>
          rw [hfl, cond_false] at h
          cases h
          rw [Ob.both_ok, Bool.and_eq_true] at hok
          refine .news ⟨hop, ?_⟩
          intro μ a w ho hH K Q hK
          obtain ⟨vs, hvs, hrun⟩ := hcall μ a w ho
          unfold Oper.wp
          rw [hrun, hM.sc g F hS]
          simp only [Oper.upon]
          refine (Sim.frozenN (hM.s g F hS _ _ _ _ hv hok.2) hok.1 hvs hH).mono ?_
          rintro e w' ⟨v', μ', rfl, hr, hg, hd'⟩
          exact hK v' w' μ' hr hg hd'
      · cases hv
    · split at h
      · rename_i F hW
        obtain ⟨hfull, h⟩ := cond_some h rfl
        split at h
        · rename_i o' u G d hv
          cases h
          exact anyOf hfull (hM.wc g F hW) (hM.w g F hW _ _ _ _ _ _ hv hok)
        · cases h
      · cases h

theorem pureM_does (hM : M.Ok P ex) {H : Heap} {f : FuncId} {args : List AV} {ob : Ob} {r : AV} (h : evPureM M H f args = some (ob, r)) (hok : ob.ok = true) {μ : Mu} {vs : List Value} {w : World} (hvs : VRels ex μ args vs) (hH : HRel ex μ H w)
    {a : Act} {o : Oper} {K : Act → World → Prop} {Q : Exit → Act → World → Prop} (hrun : (execOp a.eval o).run P w = (callFunc f vs.toArray).run P w) (hK : ∀ v' w', VRel ex μ r v' → RowKit.Below w.heap.size w w' → K (a.put o.dst v') w') : o.wp P a w K Q := by
  unfold evPureM at h
  unfold Oper.wp
  split at h
  · rename_i F hX
    obtain ⟨v', n, h1, h2⟩ := hM.x f F hX _ _ _ h hok μ vs w hvs
    rw [hrun, h1]
    exact hK v' _ h2 (below_drawn w n)
  · split at h
    · rename_i gd u G hv
      obtain ⟨hfl, h⟩ := cond_some h rfl
      cases h
      split at hv
      · rename_i F hS
        rw [Ob.both_ok, Bool.and_eq_true] at hok
        have hR := Sim.frozenR (hM.s f F hS _ _ _ _ hv hok.2) hok.1 hfl
        rw [hrun, hM.sc f F hS]
        simp only [Oper.upon]
        refine (hR μ vs w hvs hH).mono ?_
        rintro e w' ⟨v', rfl, hr, hb⟩
        exact hK v' w' hr hb
      · cases hv
    · cases h
theorem ite_ok {q : Bool} {x y : Ob} (h : (Ob.ite q x y).ok = true) : (q = true → x.ok = true) ∧ (q = false → y.ok = true) := by
  simp only [Ob.ok, mrgB_eq] at h
  cases q
  · exact ⟨fun e => (by cases e), fun _ => h⟩
  · exact ⟨fun _ => h, fun e => (by cases e)⟩
theorem altJ_of {q nx ny : Bool} {X Y : Option (Ob × AV)} {ob : Ob} {r : AV} (h : altJ q nx ny X Y = some (ob, r)) (hok : ob.ok = true) :
    (q = true → ∃ o v, X = some (o, v) ∧ o.ok = true ∧ r = v) ∧ (q = false → ∃ o v, Y = some (o, v) ∧ o.ok = true ∧ r = v) := by
  unfold altJ at h
  cases ny with
  | true =>
    rw [cond_true] at h
    split at h
    · rename_i o v
      cases h
      obtain ⟨h1, h2⟩ := ite_ok hok
      refine ⟨fun e => ⟨o, _, rfl, h1 e, rfl⟩, fun e => ?_⟩
      have := h2 e; simp [Ob.ok] at this
    · cases h
  | false =>
    rw [cond_false] at h
    cases nx with
    | true =>
      rw [cond_true] at h
      split at h
      · rename_i o v
        cases h
        obtain ⟨h1, h2⟩ := ite_ok hok
        refine ⟨fun e => ?_, fun e => ⟨o, _, rfl, h2 e, rfl⟩⟩
        have := h1 e; simp [Ob.ok] at this
      · cases h
    | false =>
      rw [cond_false] at h
      split at h
      · rename_i o v o' v'
        cases h
        obtain ⟨h1, h2⟩ := ite_ok hok
        exact ⟨fun e => ⟨o, v, rfl, h1 e, by rw [mergeAV_eq, e]; rfl⟩, fun e => ⟨o', v', rfl, h2 e, by rw [mergeAV_eq, e]; rfl⟩⟩
      · cases h
theorem alt_does (hM : M.Ok P ex) {H : Heap} {m : String} {args : List AV} {dst : Option Tmp} {xo : Operand} {cargs : Array Operand} {argTypes : Array TypeId} {ty : TypeId} {pos : String} {after : Array Edge} {guard : Option (Nat × Bool)} :
    ∀ (x : AV) (ob : Ob) (r : AV), evAltM P M H m args x = some (ob, r) → ob.ok = true → ∀ (μ : Mu) (a : Act) (w : World), VRel ex μ x (a.eval xo) → VRels ex μ args (cargs.toList.map a.eval) → HRel ex μ H w → ∀ (K : Act → World → Prop) (Q : Exit → Act → World → Prop),
      (∀ v' w', VRel ex μ r v' → RowKit.Below w.heap.size w w' → K (a.put dst v') w') → (Oper.mk dst (.call ⟨.invoke xo m, cargs, argTypes⟩) ty pos after guard).wp P a w K Q
  | .iface t u, ob, r, h, hok, μ, a, w, hx, hargs, hH, K, Q, hK => by
    simp only [evAltM] at h
    split at h
    · rename_i g hg
      simp only [VRel] at hx
      obtain ⟨u', he, hr⟩ := hx
      refine pureM_does hM h hok (vs := u' :: cargs.toList.map a.eval) (VRels.cons hr hargs) hH ?_ hK
      have hsz : P.types.size + Made.depth = (P.types.size + (Made.depth - 1)) + 1 := by
        have : 0 < Made.depth := by decide
        omega
      simp only [execOp, resolve, he, Sem.run_bind, Sem.run_pure, Result.andThen_ok, invoke]
      have e0 : (#[Value.iface t u'] ++ Array.map a.eval cargs)[0]? = some (.iface t u') := by rw [Array.getElem?_append_left (show 0 < 1 from Nat.zero_lt_one)]; rfl
      have e1 : (#[Value.iface t u'] ++ Array.map a.eval cargs).extract 1 (#[Value.iface t u'] ++ Array.map a.eval cargs).size = Array.map a.eval cargs := by
        apply Array.toList_inj.1; simp [List.take_of_length_le]
      rw [e0]
      simp only [e1, callMethod, Sem.run_bind, run_program, Result.andThen_ok, hsz, methA_run hg]
      congr 2
      apply Array.toList_inj.1; simp
    · cases h
  | .alt q x y, ob, r, h, hok, μ, a, w, hx, hargs, hH, K, Q, hK => by
    simp only [VRel] at hx
    simp only [evAltM] at h
    obtain ⟨h1, h2⟩ := altJ_of h hok
    cases q with
    | true =>
      obtain ⟨o, v, e1, e2, rfl⟩ := h1 rfl
      exact alt_does hM x _ _ e1 e2 μ a w (hx.1 rfl) hargs hH K Q hK
    | false =>
      obtain ⟨o, v, e1, e2, rfl⟩ := h2 rfl
      exact alt_does hM y _ _ e1 e2 μ a w (hx.2 rfl) hargs hH K Q hK
  | .bool _, ob, r, h, _, _, _, _, _, _, _, _, _, _ => by simp [evAltM] at h
  | .int _ _, ob, r, h, _, _, _, _, _, _, _, _, _, _ => by simp [evAltM] at h
  | .float _, ob, r, h, _, _, _, _, _, _, _, _, _, _ => by simp [evAltM] at h
  | .complex _ _, ob, r, h, _, _, _, _, _, _, _, _, _, _ => by simp [evAltM] at h
  | .str _, ob, r, h, _, _, _, _, _, _, _, _, _, _ => by simp [evAltM] at h
  | .ptr _, ob, r, h, _, _, _, _, _, _, _, _, _, _ => by simp [evAltM] at h
  | .vptr _, ob, r, h, _, _, _, _, _, _, _, _, _, _ => by simp [evAltM] at h
  | .slice _ _ _, ob, r, h, _, _, _, _, _, _, _, _, _, _ => by simp [evAltM] at h
  | .lst _ _ _ _ _, ob, r, h, _, _, _, _, _, _, _, _, _, _ => by simp [evAltM] at h
  | .view _ _ _, ob, r, h, _, _, _, _, _, _, _, _, _, _ => by simp [evAltM] at h
  | .nul, ob, r, h, _, _, _, _, _, _, _, _, _, _ => by simp [evAltM] at h
  | .top, ob, r, h, _, _, _, _, _, _, _, _, _, _ => by simp [evAltM] at h
  | .func _ _ _, ob, r, h, _, _, _, _, _, _, _, _, _, _ => by simp [evAltM] at h
  | .nilFunc, ob, r, h, _, _, _, _, _, _, _, _, _, _ => by simp [evAltM] at h
  | .nilIface, ob, r, h, _, _, _, _, _, _, _, _, _, _ => by simp [evAltM] at h
  | .unk _, ob, r, h, _, _, _, _, _, _, _, _, _, _ => by simp [evAltM] at h
  | .agg _, ob, r, h, _, _, _, _, _, _, _, _, _, _ => by simp [evAltM] at h
  | .tup _, ob, r, h, _, _, _, _, _, _, _, _, _, _ => by simp [evAltM] at h
theorem evOpM_does (hM : M.Ok P ex) {full : Bool} {o : Oper} {ρ : Operand → Option AV} {H H' : Heap} {hv hv' : HV} {ob : Ob} {v : AV} (h : evOpM P ex M full o.op ρ H hv = some (ob, v, H', hv')) (hok : ob.ok = true) : OpDoes P ex full o ρ H v H' := by
  unfold evOpM at h
  split at h
  · rename_i c x y he
    split at h
    · rename_i q u v' hq hu hv
      cases h
      refine .ro (ro_of_run fun μ a w ho hH => ?_)
      obtain ⟨dst, op, ty, pos, after, guard⟩ := o
      simp only at he; subst he
      have h1 := ho c (by simp [Op.operands]) _ hq
      have h2 := ho x (by simp [Op.operands]) _ hu
      have h3 := ho y (by simp [Op.operands]) _ hv
      simp only [VRel] at h1
      refine ⟨if q then a.eval x else a.eval y, 0, by simp [execOp, asBool, h1], ?_⟩
      rw [mergeAV_eq]
      cases q
      · exact h3
      · exact h2
    · cases h
  · rename_i c he
    obtain ⟨dst, op, ty, pos, after, guard⟩ := o
    simp only at he; subst he
    obtain ⟨callee, cargs, argTypes⟩ := c
    simp only at h
    split at h
    · rename_i f
      split at h
      · rename_i g first cap args hf hargs
        have hcall : ∀ (μ : Mu) (a : Act) (w : World), OpsRel ex μ (.call ⟨.value f, cargs, argTypes⟩) ρ a →
            ∃ vs : List Value, VRels ex μ (first ++ args ++ cap) vs ∧ (execOp a.eval ⟨dst, .call ⟨.value f, cargs, argTypes⟩, ty, pos, after, guard⟩).run P w = (callFunc g vs.toArray).run P w := by
          intro μ a w ho
          have h1 := ho f (by simp [Op.operands, Call.operands]) _ hf
          simp only [VRel] at h1
          obtain ⟨l', r', he, hl, hr⟩ := h1
          have h2 := ops_rel (a := a) cargs.toList args (fun x hx => ho x (by simp only [Op.operands, Call.operands, Array.mem_append]; exact .inr (by simpa using hx))) hargs
          refine ⟨l'.toList ++ cargs.toList.map a.eval ++ r'.toList, (hl.append h2).append hr, ?_⟩
          simp only [execOp, resolve, he, Deferred.ofValue, Sem.run_bind, Sem.run_pure, Result.andThen_ok, invoke]
          congr 2
          simp
        exact callM_does hM ⟨_, rfl⟩ hcall h hok
      · cases h
    · split at h
      · rename_i s x t u hargs hts
        obtain ⟨hc, happ⟩ := cond_some h rfl
        clear h
        simp only [Bool.and_eq_true] at hc
        obtain ⟨hfull, htu⟩ := hc
        have htu := beq_eq htu
        subst htu
        refine .any hfull ?_
        intro μ a w ho hH hd K Q hK
        have h2 := ops_rel (ex := ex) (μ := μ) (a := a) cargs.toList [s, x] (fun x hx => ho x (by simp only [Op.operands, Call.operands, Array.mem_append]; exact .inr (by simpa using hx))) hargs
        obtain ⟨v1, r1, e1, q1, h2⟩ := h2.uncons
        obtain ⟨v2, r2, e2, q2, h2⟩ := h2.uncons
        rw [VRels.nil_iff.1 h2] at e2
        obtain ⟨v', w', μ', g1, g2, g3, g4⟩ := app_run happ hok hH hd q1 q2 ty
        unfold Oper.wp
        have hrun : (execOp a.eval ⟨dst, .call ⟨.builtin .append, cargs, argTypes⟩, ty, pos, after, guard⟩).run P w = .ok (.value v') w' := by
          have ec : cargs.map a.eval = #[v1, v2] := by apply Array.toList_inj.1; rw [Array.toList_map, e1, e2]
          have et : argTypes = #[t, t] := Array.toList_inj.1 hts
          simp only [execOp, resolve, Sem.run_bind, Sem.run_pure, Result.andThen_ok, invoke, ec, et, builtin, g1]
        rw [hrun]
        exact hK v' w' μ' g2 g3 g4
      · cases h
    · rename_i b hne
      split at h
      · rename_i args hargs
        split at h
        · rename_i m hmax
          cases hex : ex with
          | true => rw [hex] at h; cases h
          | false =>
            rw [hex] at h
            cases h
            refine .ro (ro_of_run fun μ a w ho hH => ?_)
            have h2 := ops_rel (a := a) cargs.toList args (fun x hx => ho x (by simp only [Op.operands, Call.operands, Array.mem_append]; exact .inr (by simpa using hx))) hargs
            unfold maxF at hmax
            split at hmax
            · rename_i a0 r
              obtain ⟨v1, q, e1, h3, h4⟩ := h2.uncons
              simp only [VRel] at h3
              obtain ⟨x, rfl, hx⟩ := h3
              subst hex
              obtain ⟨s, n, g1, g2⟩ := maxL_run (P := P) r q a0 m x w hmax hx h4
              refine ⟨.float .f64 s, n, ?_, by simp only [VRel]; exact ⟨s, rfl, g2⟩⟩
              have e : (Array.map a.eval cargs).toList = .float .f64 x :: q := by rw [Array.toList_map]; exact e1
              simp only [execOp, resolve, Sem.run_bind, Sem.run_pure, Result.andThen_ok, invoke, builtin, Builtin.max_, e, g1]
            · cases hmax
        · split at h
          · rename_i u hv
            cases h
            refine .ro (ro_of_run fun μ a w ho hH => ?_)
            have h2 := ops_rel (a := a) cargs.toList args (fun x hx => ho x (by simp only [Op.operands, Call.operands, Array.mem_append]; exact .inr (by simpa using hx))) hargs
            obtain ⟨v', h3, h4⟩ := bi_run (P := P) (ex := ex) (μ := μ) b argTypes ty (cargs.map fun | .const _ => true | _ => false) args _ v w hv h2
            refine ⟨v', 0, ?_, h4⟩
            simp only [execOp, resolve, Sem.run_bind, Sem.run_pure, Result.andThen_ok, invoke]
            have e : (cargs.toList.map a.eval).toArray = cargs.map a.eval := by rw [← Array.toList_map]
            rw [e] at h3
            exact h3
          · cases h
      · cases h
    · rename_i x m
      split at h
      · rename_i t u args hx hargs
        split at h
        · rename_i g hg
          refine callM_does hM (args := u :: args) ⟨_, rfl⟩ ?_ h hok
          intro μ a w ho
          have h1 := ho x (by simp [Op.operands, Call.operands]) _ hx
          simp only [VRel] at h1
          obtain ⟨u', he, hr⟩ := h1
          have h2 := ops_rel (a := a) cargs.toList args (fun x hx => ho x (by simp only [Op.operands, Call.operands, Array.mem_append]; exact .inr (by simpa using hx))) hargs
          refine ⟨u' :: cargs.toList.map a.eval, VRels.cons hr h2, ?_⟩
          have hsz : P.types.size + Made.depth = (P.types.size + (Made.depth - 1)) + 1 := by
            have : 0 < Made.depth := by decide
            omega
          simp only [execOp, resolve, he, Sem.run_bind, Sem.run_pure, Result.andThen_ok, invoke]
          have e0 : (#[Value.iface t u'] ++ Array.map a.eval cargs)[0]? = some (.iface t u') := by rw [Array.getElem?_append_left (show 0 < 1 from Nat.zero_lt_one)]; rfl
          have e1 : (#[Value.iface t u'] ++ Array.map a.eval cargs).extract 1 (#[Value.iface t u'] ++ Array.map a.eval cargs).size = Array.map a.eval cargs := by
            apply Array.toList_inj.1; simp [List.take_of_length_le]
          rw [e0]
          simp only [e1, callMethod, Sem.run_bind, run_program, Result.andThen_ok, hsz, methA_run hg]
          congr 2
          apply Array.toList_inj.1; simp
        · cases h
      · rename_i q y z args hx hargs
        split at h
        · rename_i o' v' he
          cases h
          refine .ro fun μ a w ho hH K Q hK => ?_
          have h1 := ho x (by simp [Op.operands, Call.operands]) _ hx
          have h2 := ops_rel (a := a) cargs.toList args (fun x hx => ho x (by simp only [Op.operands, Call.operands, Array.mem_append]; exact .inr (by simpa using hx))) hargs
          exact alt_does hM _ _ _ he hok μ a w h1 h2 hH K Q hK
        · cases h
      · cases h
  · rename_i t x y he
    split at h
    · rename_i p u hx hy
      split at h
      · rename_i cs ob' H2 hcs hs
        obtain ⟨hfull, h⟩ := cond_some h rfl
        cases h
        exact .any hfull (store_any he hx hy hs hok)
      · cases h
    · cases h
  · split at h
    · rename_i ob' u hs
      cases h
      exact .ro (step_ro hs hok)
    · rename_i ob' b m hs
      cases h
      exact .new (step_new hs hok)
    · cases h
    · cases h
end sound
end Go.Lst
