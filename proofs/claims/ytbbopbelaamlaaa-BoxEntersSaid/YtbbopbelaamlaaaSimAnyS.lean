/- Regions that draw their order and store: in any order they end as in the order of the text, where no two operations meet in a cell that is stored to. -/
import Derived.Test.YtbbopbelaamlaaaSimDir
namespace Go.Sim

inductive Foot where
  | no
  | rd (b o n : Nat)
  | wr (b o n : Nat)
  | nw (b : Nat)
def disjF (b o n b' o' n' : Nat) : Bool := !Nat.beq b b' || (Nat.ble (o + n) o' || Nat.ble (o' + n') o)
def pairF (C : List Nat) (i : Nat) (fi : Foot) (j : Nat) (fj : Foot) : Bool :=
  Nat.beq i j || match fi, fj with
  | .rd b o n, .wr b' o' n' => linked C i j || disjF b o n b' o' n'
  | .wr b o n, .wr b' o' n' => disjF b o n b' o' n'
  | .nw b, .wr b' _ _ => !Nat.beq b b' || (C.getD j 0).testBit i
  | _, _ => true
def footsOk (C : List Nat) (fs : List Foot) : Bool := allFrom (fun i fi => allFrom (fun j fj => pairF C i fi j fj) 0 fs) 0 fs

section defs
variable (P : Program) (ex : Bool) (M : EnvM)
def isSt : Go.Op → Bool
  | .store .. => true
  | _ => false
def ldSize (t : TypeId) : Option Nat :=
  match aggT P t with
  | some true => szT P t
  | some false => some 1
  | none => none
def footA (ρ : Operand → Option AV) (H : Heap) : Go.Op → Option Foot
  | .load t x => match ρ x, ldSize P t with
    | some (.ptr (some p)), some n => some (.rd p.1 p.2 n)
    | _, _ => none
  | .store _ x y => match ρ x, ρ y with
    | some (.ptr (some p)), some v => some (.wr p.1 p.2 v.cells.length)
    | _, _ => none
  | .alloc _ => some (.nw H.length)
  | .box _ _ => some (.nw H.length)
  | .buildSlice .. => some (.nw H.length)
  | _ => some .no
def evOpsS : List Oper → St → Option (St × List Foot)
  | [], s => some (s, [])
  | o :: r, s => match o.guard with
    | some _ => none
    | none => match footA P (opA s.tm) s.H o.op, evOpM P ex M (isSt o.op) o.op (opA s.tm) s.H s.hv with
      | some ft, some (ob', v, H', hv') => match putA s.tm o.dst v with
        | some tm' => match evOpsS r ⟨Ob.both ob' s.ob, tm', bumpD s.tv o.dst, H', hv'⟩ with
          | some (s', fs) => some (s', ft :: fs)
          | none => none
        | none => none
      | _, _ => none
end defs

section kinds
variable {P : Program} {ex : Bool} {M : EnvM}
def Cov (ft : Nat → Foot) (j b k : Nat) : Prop := ∃ o n, ft j = .wr b o n ∧ o ≤ k ∧ k < o + n
inductive KindS (P : Program) (ex : Bool) (o : Oper) (ρ : Operand → Option AV) (H : Heap) (v : AV) (H' : Heap) : Foot → Prop
  | ro (h : ∀ G, OpRo P ex o ρ G v) (e : H' = H) : KindS P ex o ρ H v H' .no
  | ld {b off n : Nat} {z : Blk} (hb : H[b]? = some z) (h : ∀ (G : Heap) (x : Blk), G[b]? = some x → x.cells.length = z.cells.length → (∀ k, off ≤ k → k < off + n → x.cells[k]? = z.cells[k]?) → OpRo P ex o ρ G v) (e : H' = H) : KindS P ex o ρ H v H' (.rd b off n)
  | st {b off : Nat} {vs : List AV} {z : Blk} (hb : H[b]? = some z) (hrw : z.rw = true) (hl : off + vs.length ≤ z.cells.length) (e : H' = H.set b { z with cells := setR z.cells off vs }) (ev : v = .tup [])
      (h : ∀ (G : Heap) (x : Blk), G[b]? = some x → x.rw = true → x.cells.length = z.cells.length → ∀ (μ : Nat → Option Nat) (a : Act) (w : World), OpsRel ex μ o.op ρ a → HRel ex μ G w →
        ∃ w', (execOp a.eval o).run P w = .ok .skip w' ∧ Goes ex w G μ w' (G.set b { x with cells := setR x.cells off vs }) μ) : KindS P ex o ρ H v H' (.wr b off vs.length)
  | nw {blk : Blk} {m : Option (Nat × Nat)} (h : OpNew P ex o ρ blk m) (e : H' = H ++ [blk]) (ev : v = mkA m H.length) : KindS P ex o ρ H v H' (.nw H.length)

theorem OpDoes.roOf {o : Oper} {ρ : Operand → Option AV} {H H' : Heap} {v : AV} (h : OpDoes P ex false o ρ H v H') (e : H' = H) : OpRo P ex o ρ H v := by
  cases h with
  | ro h => exact h
  | @new b m h =>
    exfalso
    have : (H ++ [b]).length = H.length := by rw [e]
    simp at this
  | any hf _ => cases hf
theorem ro_at (hM : M.Ok P ex) {o : Oper} {ρ : Operand → Option AV} {G : Heap} {hv : HV} {ob : Ob} {v : AV} (h : evOpM P ex M false o.op ρ G hv = some (ob, v, G, hv)) (hok : ob.ok = true) : OpRo P ex o ρ G v := by
  have h1 := evOpM_eq h hok (fun v H => some (v, H))
  obtain ⟨v', H', h2, h3⟩ := evOp_does hM.env (o := o) h1
  simp only [Option.some.injEq, Prod.mk.injEq] at h2
  obtain ⟨rfl, h2⟩ := h2
  exact h3.roOf h2
/-- What it says where nothing is stored and nothing is new does not hang on memory, but for what is loaded. -/
theorem evOpM_any (hR : RAll M) {o : Go.Op} {ρ : Operand → Option AV} {H H' : Heap} {hv hv' : HV} {ob : Ob} {v : AV} (hf : footA P ρ H o = some .no) (h : evOpM P ex M false o ρ H hv = some (ob, v, H', hv')) :
    H' = H ∧ hv' = hv ∧ ∀ G, evOpM P ex M false o ρ G hv = some (ob, v, G, hv) := by
  unfold evOpM at h
  split at h
  · rename_i c x y
    split at h
    · rename_i q u w hq hu hw
      cases h
      exact ⟨rfl, rfl, fun G => by simp only [evOpM, hq, hu, hw]⟩
    · cases h
  · rename_i c
    split at h
    · rename_i f hcf
      split at h
      · rename_i g first cap args h1 h2
        have e : ∀ G, evOpM P ex M false (.call c) ρ G hv = evCallM M false G hv g (first ++ args ++ cap) := fun G => by simp only [evOpM, hcf, h1, h2]
        simp only [e]
        unfold evCallM at h ⊢
        cases hX : M.X g with
        | some F =>
          rw [hX] at h; simp only at h ⊢
          cases hF : F (first ++ args ++ cap) with
          | none => rw [hF] at h; cases h
          | some p => rw [hF] at h; cases h; exact ⟨rfl, rfl, fun _ => rfl⟩
        | none =>
          rw [hX] at h; simp only at h ⊢
          cases hRg : M.R g with
          | some F =>
            rw [hRg] at h; simp only at h ⊢
            cases hF : F (first ++ args ++ cap) H with
            | none => rw [hF] at h; cases h
            | some p =>
              rw [hF] at h; cases h
              refine ⟨rfl, rfl, fun G => ?_⟩
              rw [hR g F hRg _ G H, hF]
          | none =>
            rw [hRg] at h; simp only at h
            cases hW : M.W g with
            | none => rw [hW] at h; cases h
            | some F => rw [hW] at h; cases h
      · cases h
    · rename_i b hcb
      split at h
      · rename_i args h1
        split at h
        · rename_i w h2
          cases h
          exact ⟨rfl, rfl, fun G => by simp only [evOpM, hcb, h1, h2]⟩
        · cases h
      · cases h
    · cases h
  · rename_i t x y
    simp only [footA] at hf
    split at hf <;> cases hf
  · rename_i op n1 n2 n3
    have key : ∀ G, stepOp P ex o ρ G = stepOp P ex o ρ H := by
      intro G
      cases o <;> first | rfl | (exact (n1 _ _ _ rfl).elim) | (exact (n2 _ rfl).elim) | (exact (n3 _ _ _ rfl).elim) | (simp only [footA] at hf; split at hf <;> cases hf; done) | (exfalso; simp [footA] at hf; done) | (rename_i fn _ _; cases fn <;> rfl)
    have e : ∀ G, evOpM P ex M false o ρ G hv = match stepOp P ex o ρ G with
      | some (.ro v) => some (.tt, v, G, hv)
      | some (.newP b) => some (.tt, .ptr (some (G.length, 0)), G ++ [b], hv)
      | some (.newS b len cap) => some (.tt, .slice (some (G.length, 0)) len cap, G ++ [b], hv)
      | some (.wr _) => none
      | none => none := by
      intro G
      cases o <;> first | rfl | (exact (n1 _ _ _ rfl).elim) | (exact (n2 _ rfl).elim) | (exact (n3 _ _ _ rfl).elim)
    cases hs : stepOp P ex o ρ H with
    | none => rw [hs] at h; cases h
    | some st =>
      rw [hs] at h
      cases st with
      | ro v' => cases h; exact ⟨rfl, rfl, fun G => by rw [e, key, hs]⟩
      | newP b =>
        exfalso
        cases o <;> (try (simp [footA] at hf; done)) <;> simp only [stepOp] at hs <;> (try (cases hs; done)) <;> (try (rename_i fn _ _; cases fn <;> simp only at hs)) <;> (repeat' (split at hs)) <;> first | (cases hs; done) | (obtain ⟨_, hs⟩ := cond_some hs rfl; cases hs; done) | (obtain ⟨_, hs⟩ := cond_some hs rfl; split at hs <;> cases hs)
      | newS b l c =>
        exfalso
        cases o <;> (try (simp [footA] at hf; done)) <;> simp only [stepOp] at hs <;> (try (cases hs; done)) <;> (try (rename_i fn _ _; cases fn <;> simp only at hs)) <;> (repeat' (split at hs)) <;> first | (cases hs; done) | (obtain ⟨_, hs⟩ := cond_some hs rfl; cases hs; done) | (obtain ⟨_, hs⟩ := cond_some hs rfl; split at hs <;> cases hs)
      | wr H2 => cases h

theorem step_wr_at {o : Oper} {ρ : Operand → Option AV} {t : TypeId} {x y : Operand} (ho : o.op = .store t x y) {p : Nat × Nat} {u : AV} (hx : ρ x = some (.ptr (some p))) (hy : ρ y = some u) {G G' : Heap} (hs : storeA P G t p.1 p.2 u = some G')
    (μ : Nat → Option Nat) (a : Act) (w : World) (hr : OpsRel ex μ o.op ρ a) (hH : HRel ex μ G w) : ∃ w', (execOp a.eval o).run P w = .ok .skip w' ∧ Goes ex w G μ w' G' μ := by
  obtain ⟨dst, op, ty, pos, after, guard⟩ := o
  simp only at ho; subst ho
  have h1 := hr x (by simp [Op.operands]) _ hx
  have h2 := hr y (by simp [Op.operands]) _ hy
  simp only [VRel] at h1
  obtain ⟨c, hc, he⟩ := h1
  obtain ⟨w', h3, h4⟩ := store_run hH hc h2 hs
  refine ⟨w', ?_, h4⟩
  refine unit_run (s := Instr.storeAt t (a.eval x) (a.eval y)) ?_
  simp [Instr.storeAt, Instr.sureAddr, he, h3]
theorem storeA_form {G G' : Heap} {t : TypeId} {i o : Nat} {u : AV} (h : storeA P G t i o u = some G') : ∃ z, G[i]? = some z ∧ z.rw = true ∧ o + u.cells.length ≤ z.cells.length ∧ G' = G.set i { z with cells := setR z.cells o u.cells } ∧
    ∀ (K : Heap) (x : Blk), K[i]? = some x → x.rw = true → x.cells.length = z.cells.length → storeA P K t i o u = some (K.set i { x with cells := setR x.cells o u.cells }) := by
  unfold storeA at h
  split at h
  · cases h
  · rename_i z hz
    split at h
    · rename_i s hs
      obtain ⟨hc, h⟩ := cond_some h rfl
      cases h
      simp only [Bool.and_eq_true, Nat.ble_eq] at hc
      obtain ⟨⟨⟨h1, h2⟩, h3⟩, h4⟩ := hc
      have h2' := Nat.eq_of_beq_eq_true h2
      refine ⟨z, hz, h1, by omega, rfl, fun K x hx hr hl => ?_⟩
      unfold storeA
      simp only [hx, hs]
      have : (x.rw && Nat.beq u.cells.length s && Nat.ble (o + s) x.cells.length && oneAll u.cells) = true := by
        rw [hr, h2, h4, hl]; simp only [Bool.true_and, Bool.and_true, Nat.ble_eq]; exact h3
      rw [this]; rfl
    · cases h
theorem kind_of (hM : M.Ok P ex) (hR : RAll M) {o : Oper} {ρ : Operand → Option AV} {H H' : Heap} {hv hv' : HV} {ob : Ob} {v : AV} {ft : Foot} (hf : footA P ρ H o.op = some ft) (h : evOpM P ex M (isSt o.op) o.op ρ H hv = some (ob, v, H', hv')) (hok : ob.ok = true) :
    KindS P ex o ρ H v H' ft := by
  have quiet : footA P ρ H o.op = some .no → isSt o.op = false → KindS P ex o ρ H v H' .no := by
    intro hf hst
    rw [hst] at h
    obtain ⟨rfl, rfl, hG⟩ := evOpM_any hR hf h
    exact .ro (fun G => ro_at hM (hG G) hok) rfl
  have news : (match stepOp P ex o.op ρ H with
      | some (.ro v) => some (Ob.tt, v, H, hv)
      | some (.newP b) => some (.tt, .ptr (some (H.length, 0)), H ++ [b], hv)
      | some (.newS b len cap) => some (.tt, .slice (some (H.length, 0)) len cap, H ++ [b], hv)
      | some (.wr _) => none
      | none => none) = some (ob, v, H', hv') → (∀ v, stepOp P ex o.op ρ H ≠ some (.ro v)) → KindS P ex o ρ H v H' (.nw H.length) := by
    intro h hro
    split at h
    · rename_i u hu; exact absurd hu (hro u)
    · rename_i b hb; cases h; exact .nw (m := none) (step_newP hb) rfl rfl
    · rename_i b l c hb; cases h; exact .nw (m := some (l, c)) (step_newS hb) rfl rfl
    · cases h
    · cases h
  cases hop : o.op with
  | load t x =>
    rw [hop] at hf h
    simp only [footA] at hf
    split at hf
    · rename_i p n hp hn
      cases hf
      simp only [evOpM, stepOp, hp] at h
      split at h
      · rename_i u hu
        split at hu
        · rename_i w hl
          cases hu
          cases h
          have hl' := hl
          unfold loadA at hl'
          split at hl'
          · cases hl'
          · rename_i z hz
            refine .ld hz (fun G x hx hlen hk => ?_) rfl
            refine ro_at hM (hv := hv) (ob := .tt) ?_ rfl
            rw [hop]
            simp only [evOpM, stepOp, hp]
            have : loadA P G t p.1 p.2 = some v := by
              unfold loadA
              simp only [hx]
              unfold ldSize at hn
              split at hl'
              · rename_i ha
                rw [ha] at hn; simp only at hn ⊢
                rw [hn] at hl' ⊢
                simp only at hl' ⊢
                obtain ⟨h1, h2⟩ := cond_some hl' rfl
                rw [hlen, h1, cond_true, ← h2]
                congr 2
                apply List.ext_getElem?
                intro k
                rw [List.getElem?_take, List.getElem?_take]
                split
                · rw [List.getElem?_drop, List.getElem?_drop]; exact hk _ (by omega) (by omega)
                · rfl
              · rename_i ha
                rw [ha] at hn; simp only [Option.some.injEq] at hn ⊢
                subst hn
                rw [hk p.2 (Nat.le_refl _) (by omega)]; exact hl'
              · cases hl'
            rw [this]
        · cases hu
      · rename_i u hu; split at hu <;> cases hu
      · rename_i u hu; split at hu <;> cases hu
      · cases h
      · cases h
    · cases hf
  | store t x y =>
    rw [hop] at hf h
    simp only [footA] at hf
    split at hf
    · rename_i p u hp hu
      cases hf
      simp only [isSt, evOpM, hp, hu] at h
      split at h
      · rename_i H2 hs
        cases h
        obtain ⟨z, hz, h1, h2, h3, h4⟩ := storeA_form hs
        exact .st hz h1 h2 h3 rfl fun G x hx hr hl μ a w ho hH => step_wr_at hop hp hu (h4 G x hx hr hl) μ a w ho hH
      · cases h
    · cases hf
  | alloc t =>
    rw [hop] at hf h
    simp only [footA, Option.some.injEq] at hf; subst hf
    refine news (by rw [hop]; exact h) (fun v => ?_)
    rw [hop]; simp only [stepOp]; split <;> simp
  | box t x =>
    rw [hop] at hf h
    simp only [footA, Option.some.injEq] at hf; subst hf
    refine news (by rw [hop]; exact h) (fun v => ?_)
    rw [hop]; simp only [stepOp]; split <;> simp
  | buildSlice t l ps =>
    rw [hop] at hf h
    simp only [footA, Option.some.injEq] at hf; subst hf
    refine news (by rw [hop]; exact h) (fun v hc => ?_)
    rw [hop] at hc; simp only [stepOp] at hc
    repeat' (split at hc)
    all_goals first | (cases hc; done) | (obtain ⟨_, hc⟩ := cond_some hc rfl; cases hc; done) | (obtain ⟨_, hc⟩ := cond_some hc rfl; split at hc <;> cases hc)
  | _ =>
    rw [hop] at hf
    have hf0 := hf
    simp only [footA, Option.some.injEq] at hf
    subst hf
    exact quiet (by rw [hop]; exact hf0) (by rw [hop]; rfl)
end kinds
end Go.Sim
