/- One operation of the evaluator: what it says is what the model does. -/
import Derived.Test.YtbkogihigehjlaaLCode
namespace Go.Lst
section sound
variable {P : Program} {ex : Bool} {M : EnvM}
theorem opt_bd {μ : Mu} {d n : Nat} {lo : Option AV} {vl : Option Value} {ob : Ob} (rl : (lo = none ∧ vl = none) ∨ ∃ u v, lo = some u ∧ vl = some v ∧ VRel ex μ u v) (h : bdA d lo = some (ob, n)) (hok : ob.ok = true) :
    (vl = none ∧ n = d) ∨ ∃ k, vl = some (.int k (n : Int)) := by
  rcases rl with ⟨rfl, rfl⟩ | ⟨u, v, rfl, rfl, hv⟩
  · cases h; exact .inl ⟨rfl, rfl⟩
  · obtain ⟨k, rfl⟩ := ix_rel h hok hv
    exact .inr ⟨k, rfl⟩
theorem two_bounds (w : World) (isS : Bool) {len cap l h : Nat} {vl vh : Option Value} (rl : (vl = none ∧ l = 0) ∨ ∃ k, vl = some (.int k (l : Int))) (rh : (vh = none ∧ h = len) ∨ ∃ k, vh = some (.int k (h : Int))) (h1 : l ≤ h) (h2 : h ≤ cap) :
    (Instr.sliceBounds isS len cap vl vh none).run P w = .ok (l, h, cap) w := by
  rcases rh with ⟨rfl, rfl⟩ | ⟨k, rfl⟩ <;> rcases rl with ⟨rfl, rfl⟩ | ⟨j, rfl⟩
  · simp [Instr.sliceBounds]
  · simp [Instr.sliceBounds, bound_at w _ h1]
  · simp [Instr.sliceBounds, bound_at w _ h2]
  · simp [Instr.sliceBounds, bound_at w _ h2, bound_at w _ h1]
theorem nought_bounds (w : World) (isS : Bool) {len cap : Nat} {vl : Option Value} {kh km : IntKind} (rl : (vl = none ∧ 0 = 0) ∨ ∃ k, vl = some (.int k ((0 : Nat) : Int))) :
    (Instr.sliceBounds isS len cap vl (some (.int kh ((0 : Nat) : Int))) (some (.int km ((0 : Nat) : Int)))).run P w = .ok (0, 0, 0) w := by
  have b0 : ∀ (k : IntKind) (y : Nat) (c : BoundsCode), (Instr.sliceBound (.int k ((0 : Nat) : Int)) y c).run P w = .ok 0 w := fun k y c => bound_at w c (Nat.zero_le _)
  rcases rl with ⟨rfl, _⟩ | ⟨j, rfl⟩
  · simp only [Instr.sliceBounds, Sem.run_bind, b0, Result.andThen_ok, Sem.run_pure]
  · simp only [Instr.sliceBounds, Sem.run_bind, b0, Result.andThen_ok, Sem.run_pure]
theorem cut_at {w : World} {t elem : TypeId} {s l h m : Nat} {a : Option Addr} {len cap : Nat} {vl vh vm : Option Value} (hu : P.underlying t = some (.slice elem)) (hs : szT P elem = some s) (hb : (Instr.sliceBounds true len cap vl vh vm).run P w = .ok (l, h, m) w) :
    (Instr.sliceAt t (.slice a len cap) vl vh vm).run P w = .ok (.slice (if m = l then a else a.map (·.add (l * s))) (h - l) (m - l)) w := by
  simp only [Instr.sliceAt, Sem.run_bind, run_underlying hu, Result.andThen_ok, Instr.slice, hb, szT_run w hs, Sem.run_pure]
theorem cut_run {μ : Mu} (w : World) {t elem : TypeId} {s : Nat} {u r : AV} {ob : Ob} {v : Value} {lo hi mx : Option AV} {vl vh vm : Option Value} (hu : P.underlying t = some (.slice elem)) (hs : szT P elem = some s) (hv : VRel ex μ u v)
    (rl : (lo = none ∧ vl = none) ∨ ∃ u v, lo = some u ∧ vl = some v ∧ VRel ex μ u v) (rh : (hi = none ∧ vh = none) ∨ ∃ u v, hi = some u ∧ vh = some v ∧ VRel ex μ u v)
    (rm : (mx = none ∧ vm = none) ∨ ∃ u v, mx = some u ∧ vm = some v ∧ VRel ex μ u v) (h : cutA u s lo hi mx = some (ob, r)) (hok : ob.ok = true) :
    ∃ v', (Instr.sliceAt t v vl vh vm).run P w = .ok v' w ∧ VRel ex μ r v' := by
  unfold cutA at h
  split at h
  · -- with a third bound: nought
    rename_i m
    have key : ∀ {a c d : Ob} {hv' : AV} {q : AV}, bdA 0 lo = some (a, 0) → hi = some hv' → ixA m = some (c, 0) → ixA hv' = some (d, 0) → (Ob.both a (Ob.both c d)).ok = true →
        (∃ ad len cap, v = .slice ad len cap ∧ VRel ex μ q (.slice ad 0 0)) → ∃ v', (Instr.sliceAt t v vl vh vm).run P w = .ok v' w ∧ VRel ex μ q v' := by
      intro a c d hv' q h1 h2 h3 h4 hok ⟨ad, len, cap, hvv, hq⟩
      rw [Ob.both_ok, Bool.and_eq_true, Ob.both_ok, Bool.and_eq_true] at hok
      rcases rm with ⟨e, _⟩ | ⟨um, wm, e, rfl, hm⟩
      · cases e
      cases e
      subst h2
      rcases rh with ⟨e, _⟩ | ⟨uh, wh, e, rfl, hh⟩
      · cases e
      cases e
      obtain ⟨km, rfl⟩ := ix_rel h3 hok.2.1 hm
      obtain ⟨kh, rfl⟩ := ix_rel h4 hok.2.2 hh
      have rl' := opt_bd rl h1 hok.1
      subst hvv
      exact ⟨_, cut_at hu hs (nought_bounds w true rl'), by simpa using hq⟩
    split at h
    · rename_i b g z n k a hh c h1 h3
      split at h
      · rename_i d h4
        cases h
        refine key h1 rfl h3 h4 hok ?_
        simp only [VRel] at hv
        obtain ⟨a, cap, rfl, _⟩ := hv
        exact ⟨_, _, _, rfl, by simp only [VRel]; exact ⟨_, rfl⟩⟩
      · cases h
    · rename_i n z f a hh c h1 h3
      split at h
      · rename_i d h4
        cases h
        refine key h1 rfl h3 h4 hok ?_
        simp only [VRel] at hv
        obtain ⟨a, cap, rfl, _⟩ := hv
        exact ⟨_, _, _, rfl, by simp only [VRel]; exact ⟨_, rfl⟩⟩
      · cases h
    · rename_i a hh c h1 h3
      split at h
      · rename_i d h4
        cases h
        refine key h1 rfl h3 h4 hok ?_
        simp only [VRel] at hv
        obtain ⟨_, _, rfl⟩ := hv
        exact ⟨_, _, _, rfl, by simp [VRel]⟩
      · cases h
    · rename_i a hh c h1 h3
      split at h
      · rename_i d h4
        cases h
        refine key h1 rfl h3 h4 hok ?_
        simp only [VRel] at hv
        obtain ⟨a, rfl⟩ := hv
        exact ⟨_, _, _, rfl, by simp only [VRel]; exact ⟨_, rfl⟩⟩
      · cases h
    · cases h
  · have hvm : vm = none := by
      rcases rm with ⟨_, e⟩ | ⟨_, _, e, _, _⟩
      · exact e
      · cases e
    subst hvm
    split at h
    · rename_i b g z n k
      split at h
      · rename_i a d hh h1 h2
        obtain ⟨_, h⟩ := cond_some h rfl
        cases h
        rw [Ob.both_ok, Bool.and_eq_true, Ob.both_ok, Bool.and_eq_true] at hok
        obtain ⟨ok1, ok2, ok3⟩ := hok
        simp only [VRel] at hv
        obtain ⟨ad, cap, rfl, p1, p2, p3, p4⟩ := hv
        have hle : hh ≤ cap := by
          simp only [Ob.ok, Bool.or_eq_true, Nat.ble_eq] at ok3
          omega
        refine ⟨_, cut_at hu hs (two_bounds w true (opt_bd rl h1 ok1) (opt_bd rh h2 ok2) (Nat.zero_le _) hle), ?_⟩
        have e : (if cap = 0 then ad else ad.map (·.add (0 * s))) = ad := by
          split
          · rfl
          · cases ad with
            | none => rfl
            | some x =>
              rcases p4 with p4 | ⟨c, zz, _, p5, _⟩
              · omega
              · cases p5; simp [addr_add]
        rw [e, Nat.sub_zero, Nat.sub_zero]
        simp only [VRel]
        exact ⟨ad, cap, rfl, hle, p2, p3, p4⟩
      · cases h
    · rename_i n z f
      -- a list that is read only
      have key : ∀ {a d : Ob} {l hh : Nat}, ((vl = none ∧ l = 0) ∨ ∃ k, vl = some (.int k (l : Int))) → ((vh = none ∧ hh = n) ∨ ∃ k, vh = some (.int k (hh : Int))) → Nat.beq z s = true → l ≤ hh → hh ≤ n → ∀ g : Nat → List AV, (∀ i, g i = f (l + i)) →
          ∃ v', (Instr.sliceAt t v vl vh none).run P w = .ok v' w ∧ VRel ex μ (.view (hh - l) z g) v' := by
        intro a d l hh q1 q2 hz h1 h2 g hg
        have hz := beq_eq hz
        simp only [VRel] at hv
        obtain ⟨ad, cap, rfl, p1, p4⟩ := hv
        refine ⟨_, cut_at hu hs (two_bounds w true q1 q2 h1 (by omega)), ?_⟩
        simp only [VRel]
        refine ⟨_, _, rfl, by omega, ?_⟩
        by_cases h0 : hh - l = 0
        · exact .inl h0
        · right
          rcases p4 with p4 | ⟨c, o, arr, t', fz, rfl, hw0, hle, hr⟩
          · omega
          · rw [if_neg (by omega)]
            have hmul : hh * z ≤ n * z := Nat.mul_le_mul_right _ h2
            have e1 : hh * z = l * z + (hh - l) * z := by rw [← Nat.add_mul]; congr 1; omega
            refine ⟨c, o + l * s, arr, t', fz, by simp [addr_add], hw0, by rw [← hz]; omega, fun i hi => ?_⟩
            have h5 := hr (l + i) (by omega)
            rw [Nat.add_mul] at h5
            rw [hg, ← hz, Nat.add_assoc]
            exact h5
      split at h
      · rename_i d hh h2
        obtain ⟨hz, h⟩ := cond_some h rfl
        cases h
        rw [Ob.both_ok, Bool.and_eq_true] at hok
        have hle : hh ≤ n := by simpa [Ob.ok] using hok.2
        have rl' : vl = none := by
          rcases rl with ⟨_, e⟩ | ⟨_, _, e, _, _⟩
          · exact e
          · cases e
        have := key (a := .tt) (d := .tt) (l := 0) (.inl ⟨rl', rfl⟩) (opt_bd rh h2 hok.1) hz (Nat.zero_le _) hle f (fun i => by rw [Nat.zero_add])
        simpa using this
      · rename_i l d hh h2
        split at h
        · rename_i a o h1
          obtain ⟨hz, h⟩ := cond_some h rfl
          cases h
          rw [Ob.both_ok, Bool.and_eq_true, Ob.both_ok, Bool.and_eq_true] at hok
          obtain ⟨ok1, ok2, ok3⟩ := hok
          simp only [Ob.ok, Bool.and_eq_true, Nat.ble_eq] at ok3
          have rl' : ∃ k, vl = some (.int k (o : Int)) := by
            rcases rl with ⟨e, _⟩ | ⟨u', v', e, rfl, hv'⟩
            · cases e
            · cases e
              obtain ⟨k, rfl⟩ := ix_rel h1 ok1 hv'
              exact ⟨k, rfl⟩
          exact key (a := .tt) (d := .tt) (.inr rl') (opt_bd rh h2 ok2) hz ok3.1 ok3.2 _ (fun _ => rfl)
        · cases h
      · cases h
    · split at h
      · rename_i a l d hh h1 h2
        cases h
        rw [Ob.both_ok, Bool.and_eq_true, Ob.both_ok, Bool.and_eq_true] at hok
        obtain ⟨ok1, ok2, ok3⟩ := hok
        simp only [Ob.ok, Bool.and_eq_true] at ok3
        have hl0 := beq_eq ok3.1
        have hh0 := beq_eq ok3.2
        subst hl0; subst hh0
        simp only [VRel] at hv
        obtain ⟨_, _, rfl⟩ := hv
        exact ⟨_, cut_at hu hs (two_bounds w true (opt_bd rl h1 ok1) (opt_bd rh h2 ok2) (Nat.le_refl _) (Nat.le_refl _)), by simp [VRel]⟩
      · cases h
    · split at h
      · rename_i a l d hh h1 h2
        cases h
        rw [Ob.both_ok, Bool.and_eq_true, Ob.both_ok, Bool.and_eq_true] at hok
        obtain ⟨ok1, ok2, ok3⟩ := hok
        simp only [Ob.ok, Bool.and_eq_true] at ok3
        have hl0 := beq_eq ok3.1
        have hh0 := beq_eq ok3.2
        subst hl0; subst hh0
        simp only [VRel] at hv
        obtain ⟨ad, rfl⟩ := hv
        exact ⟨_, cut_at hu hs (two_bounds w true (opt_bd rl h1 ok1) (opt_bd rh h2 ok2) (Nat.le_refl _) (Nat.le_refl _)), by simp [VRel]⟩
      · cases h
    · cases h
theorem value_run {s : Sem Value} {w w' : World} {v : Value} (h : s.run P w = .ok v w') : (do pure (.value (← s)) : Sem Next).run P w = .ok (.value v) w' := by
  simp [h]
theorem unit_run {s : Sem Unit} {w w' : World} (h : s.run P w = .ok () w') : (do s; pure .skip : Sem Next).run P w = .ok .skip w' := by
  simp [h]

theorem step_ro {o : Oper} {ρ : Operand → Option AV} {H : Heap} {ob : Ob} {v : AV} (h : stepOp P ex o.op ρ H = some (ob, .ro v)) (hok : ob.ok = true) : OpRo P ex o ρ H v := by
  refine ro_of_run fun μ a w ho hH => ?_
  obtain ⟨dst, op, ty, pos, after, guard⟩ := o
  simp only at h ho
  have plain : ∀ {s : Sem Value}, execOp a.eval ⟨dst, op, ty, pos, after, guard⟩ = (do pure (.value (← s))) → (∃ v', s.run P w = .ok v' w ∧ VRel ex μ v v') →
      ∃ v' n, (execOp a.eval ⟨dst, op, ty, pos, after, guard⟩).run P w = .ok (.value v') { w with drawn := w.drawn + n } ∧ VRel ex μ v v' := by
    rintro s he ⟨v', h1, h2⟩
    exact ⟨v', 0, by rw [he]; exact value_run h1, h2⟩
  cases op <;> simp only [stepOp] at h <;> try (cases h; done)
  case move x =>
    split at h
    · rename_i u hu
      cases h
      exact ⟨_, 0, rfl, ho x (by simp [Op.operands]) _ hu⟩
    · cases h
  case assign x =>
    split at h
    · rename_i u hu
      cases h
      exact ⟨_, 0, rfl, ho x (by simp [Op.operands]) _ hu⟩
    · cases h
  case alloc => split at h <;> cases h
  case box => (repeat' (split at h)) <;> cases h
  case build t parts =>
    split at h
    · rename_i ps hps
      split at h
      · rename_i l hl
        cases h
        obtain ⟨cells, hc, hr⟩ := built_rel (parts_rel parts.toList ps (fun x hx => ho x (by simpa [Op.operands] using hx)) hps) hl
        refine plain rfl ⟨.agg cells, run_build w t _ cells (by simpa using hc), by simp only [VRel]; exact ⟨_, rfl, hr⟩⟩
      · cases h
    · cases h
  case buildSlice t len parts =>
    split at h
    · split at h
      · cases hc : (Nat.ble (len * _) 1024 && Nat.blt 0 (len * _) && Nat.blt 0 (List.length _)) <;> rw [hc] at h
        · rw [cond_false] at h
          obtain ⟨_, h⟩ := cond_some h rfl
          split at h <;> cases h
        · rw [cond_true] at h
          split at h <;> cases h
      · cases h
    · cases h
  case makeSlice t x y =>
    split at h
    · split at h
      · obtain ⟨_, h⟩ := cond_some h rfl
        cases h
      · cases h
    · cases h
  case load t x =>
    split at h
    · rename_i p hp
      split at h
      · rename_i u hu
        cases h
        have hx := ho x (by simp [Op.operands]) _ hp
        simp only [VRel] at hx
        obtain ⟨c, z, hc, he⟩ := hx
        obtain ⟨v', h1, h2⟩ := load_run hH hc hu hok
        exact plain rfl ⟨v', by simp [Instr.loadAt, Instr.sureAddr, he, h1], h2⟩
      · cases h
    · rename_i l hp
      have hx := ho x (by simp [Op.operands]) _ hp
      simp only [VRel] at hx
      obtain ⟨c, off, arr, ty', fz, he, hw0, hl⟩ := hx
      have hw : w.heap[c]? = some (.cells arr ty' fz) := by rw [hH.old c (Array.getElem?_eq_some_iff.1 hw0).1]; exact hw0
      split at h
      · rename_i ha
        split at h
        · rename_i s hs
          obtain ⟨hle, h⟩ := cond_some h rfl
          simp only [Bool.and_eq_true, Nat.ble_eq, Nat.blt_eq] at hle
          obtain ⟨hs0, hle⟩ := hle
          cases h
          have hlen := hl.length
          rw [List.length_take, List.length_drop] at hlen
          have hls : arr.toList.length = arr.size := by simp
          have h1 := load_agg (P := P) ha hs hw (o := off) (by omega)
          refine plain rfl ⟨_, by simp [Instr.loadAt, Instr.sureAddr, he, h1]; rfl, ?_⟩
          simp only [VRel]
          refine ⟨_, rfl, ?_⟩
          have h2 := hl.take s
          rw [List.take_take, Nat.min_eq_left hle] at h2
          simpa using h2
        · cases h
      · rename_i ha
        split at h
        · rename_i u hu
          cases h
          obtain ⟨v', hv, hr⟩ := hl.get hu
          have hv2 : arr.toList[off]? = some v' := by
            rw [List.getElem?_take] at hv
            split at hv
            · rw [List.getElem?_drop] at hv; simpa using hv
            · cases hv
          have h1 := load_one (P := P) ha hw hv2
          exact plain rfl ⟨v', by simp [Instr.loadAt, Instr.sureAddr, he, h1], hr⟩
        · cases h
      · cases h
    · cases h
  case store t x y =>
    split at h
    · split at h <;> cases h
    · cases h
  case nilCheck x =>
    split at h
    · rename_i p hp
      cases h
      have hx := ho x (by simp [Op.operands]) _ hp
      have hx' := hx
      simp only [VRel] at hx
      obtain ⟨c, z, hc, he⟩ := hx
      exact ⟨_, 0, by simp only [execOp, he]; rfl, by simp only [VRel]; exact ⟨c, z, hc, rfl⟩⟩
    · rename_i l hp
      cases h
      have hx := ho x (by simp [Op.operands]) _ hp
      simp only [VRel] at hx
      obtain ⟨c, off, arr, ty', fz, he, h1⟩ := hx
      exact ⟨_, 0, by simp only [execOp, he]; rfl, by simp only [VRel]; exact ⟨c, off, arr, ty', fz, rfl, h1⟩⟩
    · rename_i f l r hp
      cases h
      have hx := ho x (by simp [Op.operands]) _ hp
      have hx' := hx
      simp only [VRel] at hx
      obtain ⟨l', r', he, h1, h2⟩ := hx
      exact ⟨_, 0, by simp only [execOp, he]; rfl, by simp only [VRel]; exact ⟨_, _, rfl, h1, h2⟩⟩
    · cases h
  case binOp op t x y yt =>
    split at h
    · rename_i u u' hu hu'
      split at h
      · rename_i r hr
        cases h
        obtain ⟨v', n, h1, h2⟩ := bin_run op t x y u u' _ v _ _ w hr hok (ho x (by simp [Op.operands]) _ hu) (ho y (by simp [Op.operands]) _ hu')
        exact ⟨v', n, value_run h1, h2⟩
      · cases h
    · cases h
  case unOp op t x =>
    split at h
    · rename_i u hu
      split at h
      · rename_i r hr
        cases h
        exact plain rfl (un_run op u v _ w hr (ho x (by simp [Op.operands]) _ hu))
      · cases h
    · cases h
  case convert src dst x =>
    split at h
    · rename_i u hu
      split at h
      · rename_i r hr
        cases h
        exact plain rfl (conv_run src dst u v _ w hr (ho x (by simp [Op.operands]) _ hu))
      · cases h
    · cases h
  case makeInterface t x =>
    split at h
    · rename_i u hu
      obtain ⟨hc, h⟩ := cond_some h rfl
      cases h
      exact plain rfl ⟨_, run_makeInterface w t _ hc, by simp only [VRel]; exact ⟨_, rfl, ho x (by simp [Op.operands]) _ hu⟩⟩
    · cases h
  case makeFunc fn first captured =>
    cases fn <;> simp only at h <;> try (cases h; done)
    split at h
    · rename_i l r hl hr
      cases h
      have h1 := ops_rel first.toList l (fun x hx => ho x (by simp only [Op.operands, Array.mem_append]; exact .inl (by simpa using hx))) hl
      have h2 := ops_rel captured.toList r (fun x hx => ho x (by simp only [Op.operands, Array.mem_append]; exact .inr (by simpa using hx))) hr
      exact plain rfl ⟨_, rfl, by simp only [VRel]; exact ⟨_, _, rfl, by simpa using h1, by simpa using h2⟩⟩
    · cases h
  case fieldAddr s x f =>
    split at h
    · rename_i p off t hp hf
      split at h
      · rename_i n hn
        obtain ⟨h0, h⟩ := cond_some h rfl
        cases h
        have hx := ho x (by simp [Op.operands]) _ hp
        simp only [VRel] at hx
        obtain ⟨c, z, hc, he⟩ := hx
        unfold offA at hf
        split at hf
        · rename_i fields hu
          split at hf
          · rename_i fl hfl
            cases hf
            have hfl' : fields[f]? = some fl := by simpa using hfl
            have hne : ¬ n = 0 := by simp only [Nat.blt_eq] at h0; omega
            refine plain rfl ⟨.pointer (some ⟨c, p.o.val + fl.offset, none⟩), ?_, by simp only [VRel, Off.plus_val]; exact ⟨c, z, hc, rfl⟩⟩
            simp [Instr.fieldAt, run_underlying hu, hfl', he, Instr.sureAddr, fieldPlace, szT_run w hn, hne, addr_add]
          · cases hf
        · cases hf
      · cases h
    · rename_i l off t hp hf
      split at h
      · rename_i n hn
        obtain ⟨h0, h⟩ := cond_some h rfl
        cases h
        have hx := ho x (by simp [Op.operands]) _ hp
        simp only [VRel] at hx
        obtain ⟨c, o', arr, ty', fz, he, hw0, hl⟩ := hx
        unfold offA at hf
        split at hf
        · rename_i fields hu
          split at hf
          · rename_i fl hfl
            cases hf
            have hfl' : fields[f]? = some fl := by simpa using hfl
            have hne : ¬ n = 0 := by simp only [Nat.blt_eq] at h0; omega
            refine plain rfl ⟨.pointer (some ⟨c, o' + fl.offset, none⟩), ?_, ?_⟩
            · simp [Instr.fieldAt, run_underlying hu, hfl', he, Instr.sureAddr, fieldPlace, szT_run w hn, hne, addr_add]
            · simp only [VRel]
              refine ⟨c, _, arr, ty', fz, rfl, hw0, ?_⟩
              have h2 := hl.drop fl.offset
              rw [List.drop_take, List.drop_drop] at h2
              rw [List.length_drop]; exact h2
          · cases hf
        · cases hf
      · cases h
    · cases h
  case field s x f =>
    split at h
    · rename_i l off t hp hf
      split at h
      · rename_i u hu
        cases h
        have hx := ho x (by simp [Op.operands]) _ hp
        simp only [VRel] at hx
        obtain ⟨l', he, hl⟩ := hx
        unfold offA at hf
        split at hf
        · rename_i fields hun
          split at hf
          · rename_i fl hfl
            cases hf
            have hfl' : fields[f]? = some fl := by simpa using hfl
            obtain ⟨v', h1, h2⟩ := part_run w hl hu
            exact plain rfl ⟨v', by simp [Instr.field, run_underlying hun, hfl', he, asAgg, h1], h2⟩
          · cases hf
        · cases hf
      · cases h
    · cases h
  case indexAddr t x ix =>
    split at h
    · rename_i elem p len cap iv hu hp hi
      split at h
      · rename_i n s hn hs
        obtain ⟨hlt, h⟩ := cond_some h rfl
        cases h
        have hx := ho x (by simp [Op.operands]) _ hp
        have hix := ho ix (by simp [Op.operands]) _ hi
        simp only [VRel] at hx
        obtain ⟨c, z, hc, he⟩ := hx
        obtain ⟨k, hk⟩ := lit_rel hn hix
        simp only [Nat.blt_eq] at hlt
        have hlt' : (n : Int) < (len : Int) := by omega
        refine plain rfl ⟨.pointer (some ⟨c, p.o.val + n * s, none⟩), ?_, by simp only [VRel, Off.plus_val]; exact ⟨c, z, hc, rfl⟩⟩
        simp [Instr.indexAt, run_underlying hu, he, hk, asIntOf, szT_run w hs, addr_add]
        intro hle; omega
      · cases h
    · rename_i elem b g z len lo iv hu hp hi
      split at h
      · rename_i o1 n s hn hs
        obtain ⟨hz, h2⟩ := cond_some h rfl
        clear h
        have hz := beq_eq hz
        subst hz
        cases h2
        rw [Ob.both_ok, Bool.and_eq_true] at hok
        have hx := ho x (by simp [Op.operands]) _ hp
        have hix := ho ix (by simp [Op.operands]) _ hi
        simp only [VRel] at hx
        obtain ⟨ad, cap, he, h1, h2, h3, h4⟩ := hx
        obtain ⟨k, hk⟩ := ix_rel hn hok.1 hix
        have hlt : n < len := by simpa [Ob.ok] using hok.2
        have hlt' : (n : Int) < (len : Int) := by omega
        rcases h4 with h4 | ⟨c, zz, hc, rfl, _⟩
        · omega
        refine plain rfl ⟨.pointer (some ⟨c, n * z, none⟩), ?_, by simp only [VRel]; exact ⟨c, zz, hc, rfl⟩⟩
        simp [Instr.indexAt, run_underlying hu, he, hk, asIntOf, szT_run w hs, addr_add]
        intro hle; omega
      · cases h
    · rename_i elem len z f iv hu hp hi
      split at h
      · rename_i o1 n s hn hs
        obtain ⟨hz, h2⟩ := cond_some h rfl
        clear h
        have hz := beq_eq hz
        subst hz
        cases h2
        rw [Ob.both_ok, Bool.and_eq_true] at hok
        have hx := ho x (by simp [Op.operands]) _ hp
        have hix := ho ix (by simp [Op.operands]) _ hi
        simp only [VRel] at hx
        obtain ⟨ad, cap, he, h1, h4⟩ := hx
        obtain ⟨k, hk⟩ := ix_rel hn hok.1 hix
        have hlt : n < len := by simpa [Ob.ok] using hok.2
        have hlt' : (n : Int) < (len : Int) := by omega
        rcases h4 with h4 | ⟨c, off, arr, ty', fz, rfl, hw0, hle, hr⟩
        · omega
        refine plain rfl ⟨.pointer (some ⟨c, off + n * z, none⟩), ?_, ?_⟩
        · simp [Instr.indexAt, run_underlying hu, he, hk, asIntOf, szT_run w hs, addr_add]
          intro hle; omega
        · simp only [VRel]
          refine ⟨c, _, arr, ty', fz, rfl, hw0, ?_⟩
          obtain ⟨h5, _⟩ := hr n hlt
          have h6 := h5.length
          have h7 := h5.take (f n).length
          rw [List.take_take, List.take_length] at h7
          have h8 : (f n).length ≤ z := by rw [← h6, List.length_take]; omega
          rwa [Nat.min_eq_left h8] at h7
      · cases h
    · rename_i len elem p iv hu hp hi
      cases hop : openA ix p.o with
      | some k0 =>
        simp only [hop] at h
        split at h
        · rename_i o1 n s hn hs
          cases h
          rw [Ob.both_ok, Bool.and_eq_true] at hok
          have hx := ho x (by simp [Op.operands]) _ hp
          have hix := ho ix (by simp [Op.operands]) _ hi
          simp only [VRel] at hx
          obtain ⟨c, z, hc, he⟩ := hx
          obtain ⟨k, hk⟩ := ix_rel hn hok.1 hix
          have hlt : n < len := by simpa [Ob.ok] using hok.2
          have hlt' : (n : Int) < (len : Int) := by omega
          rw [openA_some hop] at he
          refine plain rfl ⟨.pointer (some ⟨c, k0 + n * s, none⟩), ?_, by simp only [VRel, Off.val]; exact ⟨c, z, hc, by rw [Nat.add_comm]⟩⟩
          simp [Instr.indexAt, run_underlying hu, he, hk, asIntOf, szT_run w hs, addr_add, Instr.sureAddr]
          intro hle; omega
        · cases h
      | none =>
      simp only [hop] at h
      split at h
      · rename_i n s hn hs
        obtain ⟨hlt, h⟩ := cond_some h rfl
        cases h
        have hx := ho x (by simp [Op.operands]) _ hp
        have hix := ho ix (by simp [Op.operands]) _ hi
        simp only [VRel] at hx
        obtain ⟨c, z, hc, he⟩ := hx
        obtain ⟨k, hk⟩ := lit_rel hn hix
        simp only [Nat.blt_eq] at hlt
        have hlt' : (n : Int) < (len : Int) := by omega
        refine plain rfl ⟨.pointer (some ⟨c, p.o.val + n * s, none⟩), ?_, by simp only [VRel, Off.plus_val]; exact ⟨c, z, hc, rfl⟩⟩
        simp [Instr.indexAt, run_underlying hu, he, hk, asIntOf, szT_run w hs, addr_add, Instr.sureAddr]
        intro hle; omega
      · cases h
    · cases h
  case index t x ix =>
    split at h
    · rename_i len elem l iv hu hp hi
      split at h
      · rename_i n s hn hs
        obtain ⟨hlt, h⟩ := cond_some h rfl
        split at h
        · rename_i u hpart
          cases h
          have hx := ho x (by simp [Op.operands]) _ hp
          have hix := ho ix (by simp [Op.operands]) _ hi
          simp only [VRel] at hx
          obtain ⟨l', he, hl⟩ := hx
          obtain ⟨k, hk⟩ := lit_rel hn hix
          simp only [Nat.blt_eq] at hlt
          have hlt' : (n : Int) < (len : Int) := by omega
          obtain ⟨v', h1, h2⟩ := part_run w hl hpart
          exact plain rfl ⟨v', by simp [Instr.index, run_underlying hu, he, hk, asIntOf, szT_run w hs, h1]; intro hle; omega, h2⟩
        · cases h
      · cases h
    · cases h
  case slice t x low high max =>
    have hop : ∀ (y : Option Operand), (∀ z, y = some z → z ∈ (Op.slice t x low high max).operands) → ∀ lo, optA ρ y = some lo → (lo = none ∧ y.map a.eval = none) ∨ ∃ u v, lo = some u ∧ y.map a.eval = some v ∧ VRel ex μ u v := fun y hy lo h =>
      opt_rel (fun z hz u hu => ho z (hy z hz) u hu) h
    have hlo := hop low (fun z hz => by subst hz; simp [Op.operands])
    have hhi := hop high (fun z hz => by subst hz; simp [Op.operands])
    have hmx := hop max (fun z hz => by subst hz; simp [Op.operands])
    split at h
    · rename_i n elem p lo hi mx hu hp h1 h2 h3
      split at h
      · rename_i l hh m s hb hs
        cases h
        have hx := ho x (by simp [Op.operands]) _ hp
        simp only [VRel] at hx
        obtain ⟨c, z, hc, he⟩ := hx
        have hrun := bounds_run (P := P) w false (hlo _ h1) (hhi _ h2) (hmx _ h3) hb
        have hval : (cond (Nat.beq m l) p.o (p.o.plus (l * s))).val = cond (Nat.beq m l) p.o.val (p.o.val + l * s) := by cases Nat.beq m l <;> simp [Off.plus_val]
        refine plain rfl ⟨.slice (some ⟨c, cond (Nat.beq m l) p.o.val (p.o.val + l * s), none⟩) (hh - l) (m - l), ?_, by simp only [VRel, hval]; exact ⟨c, z, hc, rfl⟩⟩
        simp only [Instr.sliceAt, Sem.run_bind, run_underlying hu, Result.andThen_ok, Instr.sureAddr, he, hrun, szT_run w hs, Sem.run_pure]
        congr 1
        by_cases hml : m = l
        · subst hml; simp
        · have : Nat.beq m l = false := by cases hb : Nat.beq m l with | false => rfl | true => exact absurd (Nat.eq_of_beq_eq_true hb) hml
          simp [this, hml, addr_add]
      · cases h
    · rename_i elem u lo hi mx hu hp h1 h2 h3
      split at h
      · rename_i s hs
        split at h
        · rename_i o1 r hcut
          cases h
          exact plain rfl (cut_run w hu hs (ho x (by simp [Op.operands]) _ hp) (hlo _ h1) (hhi _ h2) (hmx _ h3) hcut hok)
        · cases h
      · cases h
    · cases h
  case extract x i =>
    split at h
    · rename_i l hp
      split at h
      · rename_i u hu
        cases h
        have hx := ho x (by simp [Op.operands]) _ hp
        simp only [VRel] at hx
        obtain ⟨l', he, hl⟩ := hx
        obtain ⟨v', h1, h2⟩ := hl.get hu
        have h1' : l'[i]? = some v' := by simpa using h1
        exact plain rfl ⟨v', by simp [Instr.extract, he, h1'], h2⟩
      · cases h
    · cases h

end sound
end Go.Lst
