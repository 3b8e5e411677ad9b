/- One operation of the evaluator: what it says is what the model does. -/
import Derived.Test.YtbbopbelaamlaaaSimCode
namespace Go.Sim
section sound
variable {P : Program} {ex : Bool} {Φ : Env}

theorem value_run {s : Sem Value} {w w' : World} {v : Value} (h : s.run P w = .ok v w') : (do pure (.value (← s)) : Sem Next).run P w = .ok (.value v) w' := by
  simp [h]
theorem unit_run {s : Sem Unit} {w w' : World} (h : s.run P w = .ok () w') : (do s; pure .skip : Sem Next).run P w = .ok .skip w' := by
  simp [h]

theorem step_ro {o : Oper} {ρ : Operand → Option AV} {H : Heap} {v : AV} (h : stepOp P ex o.op ρ H = some (.ro v)) : OpRo P ex o ρ H v := by
  refine ro_of_run fun μ a w ho hH => ?_
  obtain ⟨dst, op, ty, pos, after, guard⟩ := o
  simp only at h ho
  have plain : ∀ {s : Sem Value}, execOp a.eval ⟨dst, op, ty, pos, after, guard⟩ = (do pure (.value (← s))) → (∃ v', s.run P w = .ok v' w ∧ VRel ex μ v v') →
      ∃ v' n, (execOp a.eval ⟨dst, op, ty, pos, after, guard⟩).run P w = .ok (.value v') { w with drawn := w.drawn + n } ∧ VRel ex μ v v' := by
    rintro s he ⟨v', h1, h2⟩
    exact ⟨v', 0, by rw [he]; exact value_run h1, h2⟩
  cases op <;> simp only [stepOp] at h <;> try (cases h; done)
  case move x =>
    split at h
    · rename_i u hu
      cases h
      exact ⟨_, 0, rfl, ho x (by simp [Op.operands]) _ hu⟩
    · cases h
  case assign x =>
    split at h
    · rename_i u hu
      cases h
      exact ⟨_, 0, rfl, ho x (by simp [Op.operands]) _ hu⟩
    · cases h
  case alloc => split at h <;> cases h
  case box => split at h <;> cases h
  case build t parts =>
    split at h
    · rename_i ps hps
      split at h
      · rename_i l hl
        cases h
        obtain ⟨cells, hc, hr⟩ := built_rel (parts_rel parts.toList ps (fun x hx => ho x (by simpa [Op.operands] using hx)) hps) hl
        refine plain rfl ⟨.agg cells, run_build w t _ cells (by simpa using hc), by simp only [VRel]; exact ⟨_, rfl, hr⟩⟩
      · cases h
    · cases h
  case buildSlice t len parts =>
    split at h
    · split at h
      · obtain ⟨_, h⟩ := cond_some h rfl
        split at h <;> cases h
      · cases h
    · cases h
  case load t x =>
    split at h
    · rename_i p hp
      split at h
      · rename_i u hu
        cases h
        have hx := ho x (by simp [Op.operands]) _ hp
        simp only [VRel] at hx
        obtain ⟨c, hc, he⟩ := hx
        obtain ⟨v', h1, h2⟩ := load_run hH hc hu
        exact plain rfl ⟨v', by simp [Instr.loadAt, Instr.sureAddr, he, h1], h2⟩
      · cases h
    · cases h
  case store t x y =>
    split at h
    · split at h <;> cases h
    · cases h
  case nilCheck x =>
    split at h
    · rename_i p hp
      cases h
      have hx := ho x (by simp [Op.operands]) _ hp
      have hx' := hx
      simp only [VRel] at hx
      obtain ⟨c, hc, he⟩ := hx
      exact ⟨_, 0, by simp only [execOp, he]; rfl, by simp only [VRel]; exact ⟨c, hc, rfl⟩⟩
    · rename_i f l r hp
      cases h
      have hx := ho x (by simp [Op.operands]) _ hp
      have hx' := hx
      simp only [VRel] at hx
      obtain ⟨l', r', he, h1, h2⟩ := hx
      exact ⟨_, 0, by simp only [execOp, he]; rfl, by simp only [VRel]; exact ⟨_, _, rfl, h1, h2⟩⟩
    · cases h
  case binOp op t x y yt =>
    split at h
    · rename_i u u' hu hu'
      split at h
      · rename_i r hr
        cases h
        obtain ⟨v', n, h1, h2⟩ := bin_run op t x y u u' v _ _ w hr (ho x (by simp [Op.operands]) _ hu) (ho y (by simp [Op.operands]) _ hu')
        exact ⟨v', n, value_run h1, h2⟩
      · cases h
    · cases h
  case unOp op t x =>
    split at h
    · rename_i u hu
      split at h
      · rename_i r hr
        cases h
        exact plain rfl (un_run op u v _ w hr (ho x (by simp [Op.operands]) _ hu))
      · cases h
    · cases h
  case convert src dst x =>
    split at h
    · rename_i u hu
      split at h
      · rename_i r hr
        cases h
        exact plain rfl (conv_run src dst u v _ w hr (ho x (by simp [Op.operands]) _ hu))
      · cases h
    · cases h
  case makeFunc fn first captured =>
    cases fn <;> simp only at h <;> try (cases h; done)
    split at h
    · rename_i l r hl hr
      cases h
      have h1 := ops_rel first.toList l (fun x hx => ho x (by simp only [Op.operands, Array.mem_append]; exact .inl (by simpa using hx))) hl
      have h2 := ops_rel captured.toList r (fun x hx => ho x (by simp only [Op.operands, Array.mem_append]; exact .inr (by simpa using hx))) hr
      exact plain rfl ⟨_, rfl, by simp only [VRel]; exact ⟨_, _, rfl, by simpa using h1, by simpa using h2⟩⟩
    · cases h
  case fieldAddr s x f =>
    split at h
    · rename_i p off t hp hf
      split at h
      · rename_i n hn
        obtain ⟨h0, h⟩ := cond_some h rfl
        cases h
        have hx := ho x (by simp [Op.operands]) _ hp
        simp only [VRel] at hx
        obtain ⟨c, hc, he⟩ := hx
        unfold offA at hf
        split at hf
        · rename_i fields hu
          split at hf
          · rename_i fl hfl
            cases hf
            have hfl' : fields[f]? = some fl := by simpa using hfl
            have hne : ¬ n = 0 := by simp only [Nat.blt_eq] at h0; omega
            refine plain rfl ⟨.pointer (some ⟨c, p.2 + fl.offset, none⟩), ?_, by simp only [VRel]; exact ⟨c, hc, rfl⟩⟩
            simp [Instr.fieldAt, run_underlying hu, hfl', he, Instr.sureAddr, fieldPlace, szT_run w hn, hne, addr_add]
          · cases hf
        · cases hf
      · cases h
    · cases h
  case field s x f =>
    split at h
    · rename_i l off t hp hf
      split at h
      · rename_i u hu
        cases h
        have hx := ho x (by simp [Op.operands]) _ hp
        simp only [VRel] at hx
        obtain ⟨l', he, hl⟩ := hx
        unfold offA at hf
        split at hf
        · rename_i fields hun
          split at hf
          · rename_i fl hfl
            cases hf
            have hfl' : fields[f]? = some fl := by simpa using hfl
            obtain ⟨v', h1, h2⟩ := part_run w hl hu
            exact plain rfl ⟨v', by simp [Instr.field, run_underlying hun, hfl', he, asAgg, h1], h2⟩
          · cases hf
        · cases hf
      · cases h
    · cases h
  case indexAddr t x ix =>
    split at h
    · rename_i elem p len cap iv hu hp hi
      split at h
      · rename_i n s hn hs
        obtain ⟨hlt, h⟩ := cond_some h rfl
        cases h
        have hx := ho x (by simp [Op.operands]) _ hp
        have hix := ho ix (by simp [Op.operands]) _ hi
        simp only [VRel] at hx
        obtain ⟨c, hc, he⟩ := hx
        obtain ⟨k, hk⟩ := ix_rel hn hix
        simp only [Nat.blt_eq] at hlt
        have hlt' : (n : Int) < (len : Int) := by omega
        refine plain rfl ⟨.pointer (some ⟨c, p.2 + n * s, none⟩), ?_, by simp only [VRel]; exact ⟨c, hc, rfl⟩⟩
        simp [Instr.indexAt, run_underlying hu, he, hk, asIntOf, szT_run w hs, addr_add]
        intro hle; omega
      · cases h
    · rename_i len elem p iv hu hp hi
      split at h
      · rename_i n s hn hs
        obtain ⟨hlt, h⟩ := cond_some h rfl
        cases h
        have hx := ho x (by simp [Op.operands]) _ hp
        have hix := ho ix (by simp [Op.operands]) _ hi
        simp only [VRel] at hx
        obtain ⟨c, hc, he⟩ := hx
        obtain ⟨k, hk⟩ := ix_rel hn hix
        simp only [Nat.blt_eq] at hlt
        have hlt' : (n : Int) < (len : Int) := by omega
        refine plain rfl ⟨.pointer (some ⟨c, p.2 + n * s, none⟩), ?_, by simp only [VRel]; exact ⟨c, hc, rfl⟩⟩
        simp [Instr.indexAt, run_underlying hu, he, hk, asIntOf, szT_run w hs, addr_add, Instr.sureAddr]
        intro hle; omega
      · cases h
    · cases h
  case index t x ix =>
    split at h
    · rename_i len elem l iv hu hp hi
      split at h
      · rename_i n s hn hs
        obtain ⟨hlt, h⟩ := cond_some h rfl
        split at h
        · rename_i u hpart
          cases h
          have hx := ho x (by simp [Op.operands]) _ hp
          have hix := ho ix (by simp [Op.operands]) _ hi
          simp only [VRel] at hx
          obtain ⟨l', he, hl⟩ := hx
          obtain ⟨k, hk⟩ := ix_rel hn hix
          simp only [Nat.blt_eq] at hlt
          have hlt' : (n : Int) < (len : Int) := by omega
          obtain ⟨v', h1, h2⟩ := part_run w hl hpart
          exact plain rfl ⟨v', by simp [Instr.index, run_underlying hu, he, hk, asIntOf, szT_run w hs, h1]; intro hle; omega, h2⟩
        · cases h
      · cases h
    · cases h
  case slice t x low high max =>
    have hop : ∀ (y : Option Operand), (∀ z, y = some z → z ∈ (Op.slice t x low high max).operands) → ∀ lo, optA ρ y = some lo → (lo = none ∧ y.map a.eval = none) ∨ ∃ u v, lo = some u ∧ y.map a.eval = some v ∧ VRel ex μ u v := fun y hy lo h =>
      opt_rel (fun z hz u hu => ho z (hy z hz) u hu) h
    have hlo := hop low (fun z hz => by subst hz; simp [Op.operands])
    have hhi := hop high (fun z hz => by subst hz; simp [Op.operands])
    have hmx := hop max (fun z hz => by subst hz; simp [Op.operands])
    split at h
    · rename_i elem p len cap lo hi mx hu hp h1 h2 h3
      split at h
      · rename_i l hh m s hb hs
        cases h
        have hx := ho x (by simp [Op.operands]) _ hp
        simp only [VRel] at hx
        obtain ⟨c, hc, he⟩ := hx
        have hrun := bounds_run (P := P) w true (hlo _ h1) (hhi _ h2) (hmx _ h3) hb
        refine plain rfl ⟨.slice (some ⟨c, cond (Nat.beq m l) p.2 (p.2 + l * s), none⟩) (hh - l) (m - l), ?_, by simp only [VRel]; exact ⟨c, hc, rfl⟩⟩
        simp only [Instr.sliceAt, Sem.run_bind, run_underlying hu, Result.andThen_ok, Instr.slice, he, hrun, szT_run w hs, Sem.run_pure]
        congr 1
        by_cases hml : m = l
        · subst hml; simp
        · have : Nat.beq m l = false := by cases hb : Nat.beq m l with | false => rfl | true => exact absurd (Nat.eq_of_beq_eq_true hb) hml
          simp [this, hml, addr_add]
      · cases h
    · rename_i n elem p lo hi mx hu hp h1 h2 h3
      split at h
      · rename_i l hh m s hb hs
        cases h
        have hx := ho x (by simp [Op.operands]) _ hp
        simp only [VRel] at hx
        obtain ⟨c, hc, he⟩ := hx
        have hrun := bounds_run (P := P) w false (hlo _ h1) (hhi _ h2) (hmx _ h3) hb
        refine plain rfl ⟨.slice (some ⟨c, cond (Nat.beq m l) p.2 (p.2 + l * s), none⟩) (hh - l) (m - l), ?_, by simp only [VRel]; exact ⟨c, hc, rfl⟩⟩
        simp only [Instr.sliceAt, Sem.run_bind, run_underlying hu, Result.andThen_ok, Instr.sureAddr, he, hrun, szT_run w hs, Sem.run_pure]
        congr 1
        by_cases hml : m = l
        · subst hml; simp
        · have : Nat.beq m l = false := by cases hb : Nat.beq m l with | false => rfl | true => exact absurd (Nat.eq_of_beq_eq_true hb) hml
          simp [this, hml, addr_add]
      · cases h
    · cases h
  case extract x i =>
    split at h
    · rename_i l hp
      split at h
      · rename_i u hu
        cases h
        have hx := ho x (by simp [Op.operands]) _ hp
        simp only [VRel] at hx
        obtain ⟨l', he, hl⟩ := hx
        obtain ⟨v', h1, h2⟩ := hl.get hu
        have h1' : l'[i]? = some v' := by simpa using h1
        exact plain rfl ⟨v', by simp [Instr.extract, he, h1'], h2⟩
      · cases h
    · cases h

theorem zeros_rel {μ : Nat → Option Nat} {z : List AV} {zv : Array Value} (hz : VRels ex μ z zv.toList) (n : Nat) (hp : 0 < zv.size) : VRels ex μ (zeros z n) ((Array.range n).map (zv[· % zv.size]!)).toList := by
  unfold zeros
  simp only [Array.toList_map, Array.toList_range]
  have hlen : zv.size = z.length := by rw [← hz.length]; simp
  have : ∀ (l : List Nat), VRels ex μ (l.map fun i => z.getD (i % z.length) (.tup [])) (l.map fun x => zv[x % zv.size]!) := by
    intro l
    induction l with
    | nil => exact VRels.nil
    | cons i l ih =>
      refine VRels.cons ?_ ih
      have hi : i % zv.size < zv.size := Nat.mod_lt _ hp
      have h1 := hz.getD (i % z.length)
      rw [← hlen] at h1 ⊢
      rw [List.getD_eq_getElem?_getD, List.getD_eq_getElem?_getD] at h1
      show VRel ex μ (z.getD (i % zv.size) (.tup [])) (zv[i % zv.size]!)
      rw [List.getD_eq_getElem?_getD]
      simpa [hi] using h1
  exact this _

theorem step_newP {o : Oper} {ρ : Operand → Option AV} {H : Heap} {b : Blk} (h : stepOp P ex o.op ρ H = some (.newP b)) : OpNew P ex o ρ b none := by
  obtain ⟨dst, op, ty, pos, after, guard⟩ := o
  simp only at h
  cases op <;> simp only [stepOp] at h <;> try (cases h; done)
  case alloc elem =>
    split at h
    · rename_i z hz
      cases h
      refine ⟨rfl, fun μ a w ho => ?_⟩
      obtain ⟨i, v, hi, hv, hr⟩ := zero_run (ex := ex) (μ := μ) hz
      refine ⟨v.cells, hr.cells, ?_⟩
      refine value_run (s := Instr.alloc elem true (.tuple #[])) ?_
      simp [Instr.alloc, run_zero w hi hv, newVar, newRow, mkV]
    · cases h
  case box elem x =>
    split at h
    · rename_i u hu
      cases h
      refine ⟨rfl, fun μ a w ho => ?_⟩
      have hx := ho x (by simp [Op.operands]) _ hu
      refine ⟨(a.eval x).cells, hx.cells, ?_⟩
      refine value_run (s := Instr.box elem (a.eval x)) ?_
      simp [Instr.box, newVar, newRow, mkV]
    · cases h
  case makeFunc fn f c => cases fn <;> simp only at h <;> (first | (cases h; done) | (split at h <;> cases h))
  all_goals (repeat' (split at h)) <;> first | (cases h; done) | (obtain ⟨_, h⟩ := cond_some h rfl; cases h; done) | (obtain ⟨_, h⟩ := cond_some h rfl; split at h <;> cases h)

theorem step_newS {o : Oper} {ρ : Operand → Option AV} {H : Heap} {b : Blk} {l k : Nat} (h : stepOp P ex o.op ρ H = some (.newS b l k)) : OpNew P ex o ρ b (some (l, k)) := by
  obtain ⟨dst, op, ty, pos, after, guard⟩ := o
  simp only at h
  cases op <;> simp only [stepOp] at h <;> try (cases h; done)
  case buildSlice t len parts =>
    split at h
    · rename_i elem hu
      split at h
      · rename_i ps s z hps hs hz
        obtain ⟨hc, h⟩ := cond_some h rfl
        split at h
        · rename_i cells hf
          cases h
          simp only [Bool.and_eq_true, Nat.ble_eq, Nat.blt_eq] at hc
          obtain ⟨⟨h1, h2⟩, h3⟩ := hc
          refine ⟨rfl, fun μ a w ho => ?_⟩
          obtain ⟨i, v, hi, hv, hr⟩ := zero_run (ex := ex) (μ := μ) hz
          have hlen : v.cells.size = z.cells.length := by rw [← hr.cells.length]; simp
          obtain ⟨arr, ha, hra⟩ := fill_rel (ex := ex) (μ := μ) (fun i => some (i * s, s)) ps _ (parts_rel parts.toList ps (fun x hx => ho x (by simpa [Op.operands] using hx)) hps) _ _ (zeros_rel hr.cells (l * s) (by omega)) _ hf
          refine ⟨arr, hra, ?_⟩
          refine value_run (s := Instr.buildSlice t l _) ?_
          have e1 : ¬ (l * s > 2 ^ 24) := by omega
          have e2 : ¬ (l * s = 0) := by omega
          simp [Instr.buildSlice, run_underlying hu, szT_run w hs, e1, e2, run_zero w hi hv, ha, newRow, mkV]
        · cases h
      · cases h
    · cases h
  case makeFunc fn f c => cases fn <;> simp only at h <;> (first | (cases h; done) | (split at h <;> cases h))
  all_goals (repeat' (split at h)) <;> first | (cases h; done) | (obtain ⟨_, h⟩ := cond_some h rfl; cases h; done) | (obtain ⟨_, h⟩ := cond_some h rfl; split at h <;> cases h)

theorem step_wr {o : Oper} {ρ : Operand → Option AV} {H H' : Heap} (h : stepOp P ex o.op ρ H = some (.wr H')) : OpAny P ex o ρ H (.tup []) H' := by
  obtain ⟨dst, op, ty, pos, after, guard⟩ := o
  simp only at h
  cases op <;> simp only [stepOp] at h <;> try (cases h; done)
  case store t x y =>
    split at h
    · rename_i p v hp hv
      split at h
      · rename_i H2 hs
        cases h
        intro μ a w ho hH hd K Q hK
        have hx := ho x (by simp [Op.operands]) _ hp
        have hy := ho y (by simp [Op.operands]) _ hv
        simp only [VRel] at hx
        obtain ⟨c, hc, he⟩ := hx
        obtain ⟨w', h1, h2⟩ := store_run hH hc hy hs
        unfold Oper.wp
        have hrun : (execOp a.eval ⟨dst, .store t x y, ty, pos, after, guard⟩).run P w = .ok .skip w' := by
          refine unit_run (s := Instr.storeAt t (a.eval x) (a.eval y)) ?_
          simp [Instr.storeAt, Instr.sureAddr, he, h1]
        rw [hrun]
        refine hK _ _ μ VRel.undef h2 ?_
        have : H'.length = H.length := by
          unfold storeA at hs
          repeat' (split at hs)
          all_goals first | (cases hs; done) | (obtain ⟨_, hs⟩ := cond_some hs rfl; cases hs; simp)
        intro i hi
        exact hd i (by omega)
      · cases h
    · cases h
  case makeFunc fn f c => cases fn <;> simp only at h <;> (first | (cases h; done) | (split at h <;> cases h))
  all_goals (repeat' (split at h)) <;> first | (cases h; done) | (obtain ⟨_, h⟩ := cond_some h rfl; cases h; done) | (obtain ⟨_, h⟩ := cond_some h rfl; split at h <;> cases h)

theorem bi_run {μ : Nat → Option Nat} (b : Builtin) (ts : Array TypeId) (ty : TypeId) (cs : Array Bool) (args : List AV) (vs : List Value) (r : AV) (w : World) (h : biA P b ts args = some r) (hv : VRels ex μ args vs) :
    ∃ v, (builtin b ts ty cs vs.toArray).run P w = .ok (.value v) w ∧ VRel ex μ r v := by
  unfold biA at h
  split at h
  · cases h
    obtain ⟨v1, r1, rfl, h1, hv⟩ := hv.uncons
    obtain ⟨v2, r2, rfl, h2, hv⟩ := hv.uncons
    rw [VRels.nil_iff.1 hv]
    simp only [VRel] at h1 h2
    obtain ⟨p, rfl, hp⟩ := h1
    obtain ⟨q, rfl, hq⟩ := h2
    exact ⟨.complex .f64 p q, by simp only [builtin, Sem.run_bind]; rw [run_complex]; rfl, by simp only [VRel]; exact ⟨_, _, rfl, hp, hq⟩⟩
  · cases h
    obtain ⟨v1, r1, rfl, h1, hv⟩ := hv.uncons
    rw [VRels.nil_iff.1 hv]
    simp only [VRel] at h1
    obtain ⟨p, q, rfl, hp, hq⟩ := h1
    exact ⟨.float .f64 p, by simp only [builtin, Sem.run_bind]; rw [run_real]; rfl, by simp only [VRel]; exact ⟨_, rfl, hp⟩⟩
  · cases h
    obtain ⟨v1, r1, rfl, h1, hv⟩ := hv.uncons
    rw [VRels.nil_iff.1 hv]
    simp only [VRel] at h1
    obtain ⟨p, q, rfl, hp, hq⟩ := h1
    exact ⟨.float .f64 q, by simp only [builtin, Sem.run_bind]; rw [run_imag]; rfl, by simp only [VRel]; exact ⟨_, rfl, hq⟩⟩
  · rename_i p n c
    split at h
    · rename_i t ht
      split at h
      · rename_i e hu
        cases h
        obtain ⟨v1, r1, rfl, h1, hv⟩ := hv.uncons
        rw [VRels.nil_iff.1 hv]
        obtain ⟨q, k, rfl⟩ : ∃ q k, v1 = .slice q n k := by
          cases p with
          | none => simp only [VRel] at h1; obtain ⟨rfl, rfl, rfl⟩ := h1; exact ⟨_, _, rfl⟩
          | some p => simp only [VRel] at h1; obtain ⟨c, _, rfl⟩ := h1; exact ⟨_, _, rfl⟩
        exact ⟨.int .i64 n, by simp [builtin, Builtin.len_, ht, run_underlying hu, goInt], by simp only [VRel]⟩
      · cases h
    · cases h
  · split at h
    · rename_i t ht
      split at h
      · rename_i n e hu
        cases h
        obtain ⟨v1, r1, rfl, h1, hv⟩ := hv.uncons
        rw [VRels.nil_iff.1 hv]
        exact ⟨.int .i64 n, by simp [builtin, Builtin.len_, ht, run_underlying hu, goInt], by simp only [VRel]⟩
      · cases h
    · cases h
  · cases h
    obtain ⟨v1, r1, rfl, h1, hv⟩ := hv.uncons
    obtain ⟨v2, r2, rfl, h2, hv⟩ := hv.uncons
    rw [VRels.nil_iff.1 hv]
    simp only [VRel] at h1 h2
    subst h1; subst h2
    exact ⟨_, by simp only [builtin, Sem.run_bind]; rw [run_max_int2]; rfl, by simp only [VRel]⟩
  · cases h
    obtain ⟨v1, r1, rfl, h1, hv⟩ := hv.uncons
    obtain ⟨v2, r2, rfl, h2, hv⟩ := hv.uncons
    rw [VRels.nil_iff.1 hv]
    simp only [VRel] at h1 h2
    subst h1; subst h2
    exact ⟨_, by simp only [builtin, Sem.run_bind]; rw [run_min_int2]; rfl, by simp only [VRel]⟩
  · cases h

theorem evOp_does (hΦ : Φ.Ok P ex) {full : Bool} {o : Oper} {ρ : Operand → Option AV} {H : Heap} {k : AV → Heap → Option Res} {r : Res} (h : evOp P ex Φ full o.op ρ H k = some r) :
    ∃ v H', k v H' = some r ∧ OpDoes P ex full o ρ H v H' := by
  have gen : ∀ s, stepOp P ex o.op ρ H = some s → (match s with
      | .ro v => k v H
      | .newP b => k (.ptr (some (H.length, 0))) (H ++ [b])
      | .newS b len cap => k (.slice (some (H.length, 0)) len cap) (H ++ [b])
      | .wr H' => cond full (k (.tup []) H') none) = some r → ∃ v H', k v H' = some r ∧ OpDoes P ex full o ρ H v H' := by
    intro s hs h
    cases s with
    | ro v => exact ⟨v, H, h, .ro (step_ro hs)⟩
    | newP b => exact ⟨_, _, h, .new (step_newP hs)⟩
    | newS b l c => exact ⟨_, _, h, .new (m := some (l, c)) (step_newS hs)⟩
    | wr H' => obtain ⟨hf, h⟩ := cond_some h rfl; exact ⟨_, H', h, .any hf (step_wr hs)⟩
  unfold evOp at h
  split at h
  · rename_i c x y he
    split at h
    · rename_i q u v hq hu hv
      have ro : ∀ (z : AV), z = (cond q u v) → OpRo P ex o ρ H z := by
        intro z hz
        refine ro_of_run fun μ a w ho hH => ?_
        obtain ⟨dst, op, ty, pos, after, guard⟩ := o
        simp only at he; subst he
        have h1 := ho c (by simp [Op.operands]) _ hq
        have h2 := ho x (by simp [Op.operands]) _ hu
        have h3 := ho y (by simp [Op.operands]) _ hv
        simp only [VRel] at h1
        refine ⟨if q then a.eval x else a.eval y, 0, by simp [execOp, asBool, h1], ?_⟩
        subst hz; cases q
        · exact h3
        · exact h2
      cases q
      · exact ⟨v, H, h, .ro (ro v rfl)⟩
      · exact ⟨u, H, h, .ro (ro u rfl)⟩
    · cases h
  · rename_i c he
    obtain ⟨dst, op, ty, pos, after, guard⟩ := o
    simp only at he; subst he
    obtain ⟨callee, cargs, argTypes⟩ := c
    simp only at h
    split at h
    · rename_i f
      split at h
      · rename_i g first cap args hf hargs
        -- what the model makes of the call
        have hcall : ∀ (μ : Nat → Option Nat) (a : Act) (w : World), OpsRel ex μ (.call ⟨.value f, cargs, argTypes⟩) ρ a →
            ∃ vs : List Value, VRels ex μ (first ++ args ++ cap) vs ∧ (execOp a.eval ⟨dst, .call ⟨.value f, cargs, argTypes⟩, ty, pos, after, guard⟩).run P w = (callFunc g vs.toArray).run P w := by
          intro μ a w ho
          have h1 := ho f (by simp [Op.operands, Call.operands]) _ hf
          simp only [VRel] at h1
          obtain ⟨l', r', he, hl, hr⟩ := h1
          have h2 := ops_rel (a := a) cargs.toList args (fun x hx => ho x (by simp only [Op.operands, Call.operands, Array.mem_append]; exact .inr (by simpa using hx))) hargs
          refine ⟨l'.toList ++ cargs.toList.map a.eval ++ r'.toList, (hl.append h2).append hr, ?_⟩
          simp only [execOp, resolve, he, Deferred.ofValue, Sem.run_bind, Sem.run_pure, Result.andThen_ok, invoke]
          congr 2
          simp
        unfold evCall at h
        split at h
        · rename_i F hX
          split at h
          · rename_i gd v hv
            obtain ⟨hgd, h⟩ := cond_some h rfl
            subst hgd
            refine ⟨v, H, h, .ro (ro_of_run fun μ a w ho hH => ?_)⟩
            obtain ⟨vs, hvs, hrun⟩ := hcall μ a w ho
            obtain ⟨v', n, h1, h2⟩ := hΦ.x g F hX _ _ hv μ vs w hvs
            exact ⟨v', n, by rw [hrun]; exact h1, h2⟩
          · cases h
        · split at h
          · rename_i F hR
            obtain ⟨v, hk, hS⟩ := hΦ.r g F hR _ _ _ _ h
            refine ⟨v, H, hk, .ro ?_⟩
            intro μ a w ho hH K Q hK
            obtain ⟨vs, hvs, hrun⟩ := hcall μ a w ho
            unfold Oper.wp
            rw [hrun, hΦ.rc g F hR]
            simp only [Oper.upon]
            refine (hS μ vs w hvs hH).mono ?_
            rintro e w' ⟨v', rfl, hr, hb⟩
            exact hK v' w' hr hb
          · split at h
            · rename_i F hW
              obtain ⟨hfull, h⟩ := cond_some h rfl
              obtain ⟨v, H', hk, hS⟩ := hΦ.w g F hW _ _ _ _ h
              refine ⟨v, H', hk, .any hfull ?_⟩
              intro μ a w ho hH hd K Q hK
              obtain ⟨vs, hvs, hrun⟩ := hcall μ a w ho
              unfold Oper.wp
              rw [hrun, hΦ.wc g F hW]
              simp only [Oper.upon]
              refine (hS μ vs w hvs hH hd).mono ?_
              rintro e w' ⟨v', μ', rfl, hr, hg, hd'⟩
              exact hK v' w' μ' hr hg hd'
            · cases h
      · cases h
    · rename_i b
      split at h
      · rename_i args hargs
        split at h
        · rename_i v hv
          refine ⟨v, H, h, .ro (ro_of_run fun μ a w ho hH => ?_)⟩
          have h2 := ops_rel (a := a) cargs.toList args (fun x hx => ho x (by simp only [Op.operands, Call.operands, Array.mem_append]; exact .inr (by simpa using hx))) hargs
          obtain ⟨v', h3, h4⟩ := bi_run (P := P) (ex := ex) (μ := μ) b argTypes ty (cargs.map fun | .const _ => true | _ => false) args _ v w hv h2
          refine ⟨v', 0, ?_, h4⟩
          simp only [execOp, resolve, Sem.run_bind, Sem.run_pure, Result.andThen_ok, invoke]
          have e : (cargs.toList.map a.eval).toArray = cargs.map a.eval := by rw [← Array.toList_map]
          rw [e] at h3
          exact h3
        · cases h
      · cases h
    · cases h
  · split at h
    · rename_i v hs; exact gen (.ro v) hs h
    · rename_i b hs; exact gen (.newP b) hs h
    · rename_i b l c hs; exact gen (.newS b l c) hs h
    · rename_i H' hs; exact gen (.wr H') hs h
    · cases h
end sound
end Go.Sim
