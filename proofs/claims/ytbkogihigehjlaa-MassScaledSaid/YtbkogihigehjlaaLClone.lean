/- A function that asks whether a list is nil, where nobody knows: both ways (slices.Clone). -/
import Derived.Test.YtbkogihigehjlaaLFrame
namespace Go.Lst
section
variable (P : Program) (ex : Bool) (M : EnvM)
def step1 (lits : List Tmp) (c : Code) (tm : List AV) (H : Heap) : Option (Bool × Exit × List AV × Heap) :=
  match evCodeM P ex M lits [] 96 c .no ⟨.tt, tm, [], H, []⟩ with
  | some (.last e s) => some (s.ob.ok, e, s.tm, s.H)
  | _ => none
/-- 'r0; r1; if t { A } else { B }; rest', where t is not known. -/
def unkRun (r0 r1 A B rest : Code) (t : Tmp) (fn : Func) (args : List AV) : Option (Nat × Bool × (AV × Heap) × AV × Heap) :=
  match step1 P ex M [] r0 (startS fn args []).tm [] with
  | some (true, .normal, tm1, []) => match step1 P ex M [] r1 tm1 [] with
    | some (true, .normal, tm2, []) => match tm2[t]? with
      | some (.unk n) => match step1 P ex M [t] (.cond (.tmp t) A B) (tm2.set t (.bool true)) [], step1 P ex M [t] (.cond (.tmp t) A B) (tm2.set t (.bool false)) [] with
        | some (true, .ret, tmT, HT), some (true, .normal, tm3, []) => match step1 P ex M [] rest tm3 [] with
          | some (q, .ret, tmF, HF) => match resV P tmT HT fn.results.toList, resV P tmF HF fn.results.toList with
            | some vT, some vF => some (n, q, (vT, HT), vF, HF)
            | _, _ => none
          | _ => none
        | _, _ => none
      | _ => none
    | _ => none
  | _ => none
end
section
variable {P : Program} {ex : Bool} {M : EnvM}
theorem step1_sim (hM : M.Ok P ex) {lits : List Tmp} {c : Code} {tm tm' : List AV} {H H' : Heap} {e : Exit} {q : Bool} (h : step1 P ex M lits c tm H = some (q, e, tm', H')) (hq : q = true) : CodeSim P ex 0 c tm H e tm' H' := by
  unfold step1 at h
  split at h
  · rename_i e' s he
    cases h
    exact ((evCodeM_spec hM 96 c .no _ _ (annNo c) he).run hq).2.2
  · cases h
theorem Ends.known {tm : List AV} {w0 : World} {H0 H : Heap} {μ0 : Mu} {a : Act} {w : World} {t : Tmp} {n : Nat} (h : Ends ex tm w0 H0 μ0 H a w) (ht : tm[t]? = some (.unk n)) :
    ∃ b : Bool, a.eval (.tmp t) = .bool b ∧ (b = true → n = 0) ∧ Ends ex (tm.set t (.bool b)) w0 H0 μ0 H a w := by
  obtain ⟨μ, h1, h2, h3, h4⟩ := h
  obtain ⟨v, hv, hr⟩ := h1.get ht
  simp only [VRel] at hr
  obtain ⟨b, rfl, hb⟩ := hr
  refine ⟨b, ?_, hb, μ, ?_, h2, h3, h4⟩
  · simp [Act.eval, Array.getD_eq_getD_getElem?, ← Array.getElem?_toList, hv]
  · have := h1.set (a := .bool b) (v := .bool b) (by simp only [VRel]) t
    have e : a.tmps.toList.set t (.bool b) = a.tmps.toList := by
      apply List.ext_getElem?
      intro i
      rw [List.getElem?_set]
      split
      · rename_i hi
        subst hi
        split
        · exact hv.symm
        · rename_i hlt
          exact absurd (List.getElem?_eq_some_iff.1 hv).1 hlt
      · rfl
    rw [e] at this; exact this
theorem unk_calls (hM : M.Ok P ex) {r0 r1 A B rest : Code} {t : Tmp} {f : FuncId} {fn : Func} (hf : P.funcs[f]? = some fn) (hb : fn.body = some (.seq r0 (.seq (.seq r1 (.cond (.tmp t) A B)) rest))) {args : List AV} {n : Nat} {q : Bool} {vT vF : AV} {HT HF : Heap}
    (h : unkRun P ex M r0 r1 A B rest t fn args = some (n, q, (vT, HT), vF, HF)) (hq : q = true) (μ : Mu) (vs : List Value) (w : World) (hvs : VRels ex μ args vs) (hH : HRel ex μ [] w) (hd : Dom μ []) :
    Calls P f vs.toArray w fun e w' => ∃ u μ', e = .returned u ∧ ((n = 0 ∧ VRel ex μ' vT u ∧ Goes ex w [] μ w' HT μ' ∧ Dom μ' HT) ∨ (VRel ex μ' vF u ∧ Goes ex w [] μ w' HF μ' ∧ Dom μ' HF)) := by
  unfold unkRun at h
  split at h
  case h_2 => cases h
  rename_i tm1 h0
  split at h
  case h_2 => cases h
  rename_i tm2 h1
  split at h
  case h_2 => cases h
  rename_i n' hx
  split at h
  case h_2 => cases h
  rename_i tmT HT' tm3 hT hF
  split at h
  case h_2 => cases h
  rename_i q' tmF HF' hR
  split at h
  case h_2 => cases h
  rename_i vT' vF' rT rF
  cases h
  have s0 := step1_sim hM h0 rfl
  have s1 := step1_sim hM h1 rfl
  have sT := step1_sim hM hT rfl
  have sF := step1_sim hM hF rfl
  have sR := step1_sim hM hR hq
  have fT := fin_sim (ex := ex) rT
  have fF := fin_sim (ex := ex) rF
  refine calls_of_wp hf hb ?_
  have hE : Ends ex (startS fn args []).tm w [] μ [] ⟨vs.toArray ++ Array.replicate (fn.ntmps - vs.toArray.size) undef, []⟩ w := by
    refine ⟨μ, ?_, rfl, Goes.refl hH, hd⟩
    have hsz : vs.toArray.size = args.length := by simp [hvs.length]
    rw [hsz]
    simp only [Array.toList_append, Array.toList_replicate]
    exact hvs.append (VRels.replicate VRel.undef _)
  have hK : DomK 0 μ [] := ⟨hd, Nat.le_refl _⟩
  refine wp_seq ?_
  refine wp_mono (s0 w [] μ _ w hK hE) ?_
  rintro e1 a1 w1 ⟨rfl, E1⟩
  refine wp_seq (wp_seq ?_)
  refine wp_mono (s1 w [] μ a1 w1 hK E1) ?_
  rintro e2 a2 w2 ⟨rfl, E2⟩
  obtain ⟨b, hev, hn, E3⟩ := E2.known hx
  cases b with
  | true =>
    refine wp_mono (sT w [] μ a2 w2 hK E3) ?_
    rintro e4 a4 w4 ⟨rfl, E4⟩
    obtain ⟨u, μ', g1, g2, g3, g4⟩ := fT w [] μ a4 w4 E4
    have hdef : a4.defers = [] := by obtain ⟨_, _, h5, _⟩ := E4; exact h5
    exact ⟨hdef, u, g1, u, μ', rfl, .inl ⟨hn rfl, g2, g3, g4⟩⟩
  | false =>
    refine wp_mono (sF w [] μ a2 w2 hK E3) ?_
    rintro e4 a4 w4 ⟨rfl, E4⟩
    refine wp_mono (sR w [] μ a4 w4 hK E4) ?_
    rintro e5 a5 w5 ⟨rfl, E5⟩
    obtain ⟨u, μ', g1, g2, g3, g4⟩ := fF w [] μ a5 w5 E5
    have hdef : a5.defers = [] := by obtain ⟨_, _, h5, _⟩ := E5; exact h5
    exact ⟨hdef, u, g1, u, μ', rfl, .inr ⟨g2, g3, g4⟩⟩
/-- slices.Clone of a list of elements of S cells: a list of its own. -/
def cloneS (S bytes : Nat) (elem : TypeId) : SFM := fun args => match args with
  | [.view n z g] => cond (Nat.beq z S) (some (.bit (Nat.ble (n * bytes) 140737488355328), .lst 0 1 S n n, [⟨.sym n S g, elem, 1⟩])) none
  | _ => none
theorem SOkM.clone (hM : M.Ok P ex) {r0 r1 A B rest : Code} {t : Tmp} {f : FuncId} {fn : Func} (hf : P.funcs[f]? = some fn) (hc : ∀ (args : Array Value) (w : World), (callFunc f args).run P w = .ok (.enter f args) w)
    (hb : fn.body = some (.seq r0 (.seq (.seq r1 (.cond (.tmp t) A B)) rest))) {S bytes : Nat} {elem : TypeId}
    (ev : ∀ (n : Nat) (g : Nat → List AV), unkRun P ex M r0 r1 A B rest t fn [.view n S g] = some (n, Nat.ble ((0 + n) * bytes) 140737488355328, (.slice none 0 0, []), .lst 0 1 S (0 + n) (0 + n), [⟨.sym (0 + n) S (fun j => mergeL (Nat.blt j 0) [] (g (j - 0))), elem, 1⟩])) : SOkM P ex (f, cloneS S bytes elem) where
  call := hc
  sound := by
    intro args o v G h ho
    simp only [cloneS] at h
    split at h
    · rename_i n z g
      obtain ⟨hz, h⟩ := cond_some h rfl
      have hz := Nat.eq_of_beq_eq_true hz
      subst hz
      cases h
      intro μ vs w hvs hH hd
      have ev := ev n g
      rw [Nat.zero_add, show (fun j => mergeL (Nat.blt j 0) [] (g (j - 0))) = g from funext fun j => by rw [mergeL_eq]; rfl] at ev
      refine (unk_calls hM hf hb ev ho μ vs w hvs hH hd).mono ?_
      rintro e w' ⟨u, μ', rfl, ⟨hn, g2, g3, g4⟩ | ⟨g2, g3, g4⟩⟩
      · subst hn
        have hle : HLe ([] : Heap) [⟨.sym 0 z g, elem, 1⟩] := fun i b hb => by simp at hb
        refine ⟨u, μ', rfl, ?_, g3.more g4 hle, g4.le hle⟩
        simp only [VRel] at g2 ⊢
        obtain ⟨_, _, rfl⟩ := g2
        exact ⟨none, 0, rfl, Nat.le_refl _, Nat.le_refl _, Nat.zero_le _, .inl rfl⟩
      · exact ⟨u, μ', rfl, g2, g3, g4⟩
    · cases h
end
end Go.Lst
namespace Go.Lst
/-- The rows of a list that is written down. -/
def rowLst (l : List (List AV)) (i : Nat) : List AV := l.getD i []
def allN : Nat → (Nat → Bool) → Bool
  | 0, _ => true
  | n + 1, p => p n && allN n p
theorem allN_get {p : Nat → Bool} : ∀ {n : Nat}, allN n p = true → ∀ i, i < n → p i = true
  | 0, _, i, hi => by omega
  | n + 1, h, i, hi => by
    simp only [allN, Bool.and_eq_true] at h
    by_cases e : i = n
    · subst e; exact h.1
    · exact allN_get h.2 i (by omega)
mutual
/-- Is the one value as the other one says? -/
def eqvA (a : AV) : AV → Bool
  | .bool q => match a with | .bool p => p == q | _ => false
  | .int k n => match a with | .int j m => decide (j = k) && ieq m n | _ => false
  | .float x => match a with | .float y => Nat.beq y x | _ => false
  | .complex x y => match a with | .complex u v => Nat.beq u x && Nat.beq v y | _ => false
  | .ptr none => match a with | .ptr none => true | _ => false
  | .vptr l => match a with | .vptr m => eqvL m l | _ => false
  | .slice none n k => match a with | .slice none m j => Nat.beq m n && Nat.beq j k | _ => false
  | .view n s f => match a with | .view m t g => Nat.beq m n && (Nat.beq t s && allN n (fun i => eqvL (g i) (f i))) | _ => false
  | .nul => match a with | .nul => true | _ => false
  | .top => true
  | .func f l r => match a with | .func g m q => Nat.beq g f && (eqvL m l && eqvL q r) | _ => false
  | .nilFunc => match a with | .nilFunc => true | _ => false
  | .iface t u => match a with | .iface s v => Nat.beq s t && eqvA v u | _ => false
  | .nilIface => match a with | .nilIface => true | _ => false
  | .agg l => match a with | .agg m => eqvL m l | _ => false
  | .tup l => match a with | .tup m => eqvL m l | _ => false
  | _ => false
def eqvL (m : List AV) : List AV → Bool
  | [] => match m with | [] => true | _ => false
  | b :: l => match m with | a :: r => eqvA a b && eqvL r l | _ => false
end
section
variable {P : Program} {ex : Bool} {M : EnvM} {μ : Mu}
mutual
theorem eqvA_rel : ∀ (b a : AV) (v : Value), eqvA a b = true → VRel ex μ a v → VRel ex μ b v
  | .bool q, a, v, h, r => by
    cases a <;> simp only [eqvA] at h <;> first | cases h | skip
    rename_i p
    have : p = q := by simpa using h
    subst this; exact r
  | .int k n, a, v, h, r => by
    cases a <;> simp only [eqvA] at h <;> first | cases h | skip
    simp only [Bool.and_eq_true, decide_eq_true_eq, ieq] at h
    obtain ⟨h1, h2⟩ := h
    subst h1; subst h2; exact r
  | .float x, a, v, h, r => by
    cases a <;> simp only [eqvA] at h <;> first | cases h | skip
    have := beq_eq h
    subst this; exact r
  | .complex x y, a, v, h, r => by
    cases a <;> simp only [eqvA] at h <;> first | cases h | skip
    obtain ⟨h1, h2⟩ := and_beq2 h
    subst h1; subst h2; exact r
  | .ptr none, a, v, h, r => by
    cases a with
    | ptr p => cases p with
      | none => exact r
      | some p => simp [eqvA] at h
    | _ => simp [eqvA] at h
  | .ptr (some _), a, v, h, r => by simp [eqvA] at h
  | .vptr l, a, v, h, r => by
    cases a <;> simp only [eqvA] at h <;> first | cases h | skip
    rename_i m
    simp only [VRel] at r ⊢
    obtain ⟨c, o, arr, t, fz, e1, e2, e3⟩ := r
    exact ⟨c, o, arr, t, fz, e1, e2, by rw [← eqvL_length l m h]; exact eqvL_rel l m _ h e3⟩
  | .slice none n k, a, v, h, r => by
    cases a with
    | slice p m j => cases p with
      | none =>
        simp only [eqvA] at h
        obtain ⟨h1, h2⟩ := and_beq2 h
        subst h1; subst h2; exact r
      | some p => simp [eqvA] at h
    | _ => simp [eqvA] at h
  | .slice (some _) _ _, a, v, h, r => by simp [eqvA] at h
  | .lst _ _ _ _ _, a, v, h, r => by simp [eqvA] at h
  | .view n s f, a, v, h, r => by
    cases a <;> simp only [eqvA] at h <;> first | cases h | skip
    rename_i m t g
    simp only [Bool.and_eq_true] at h
    obtain ⟨h1, h2, h3⟩ := h
    have h1 := beq_eq h1
    have h2 := beq_eq h2
    subst h1; subst h2
    simp only [VRel] at r ⊢
    obtain ⟨x, cap, e1, e2, e3⟩ := r
    refine ⟨x, cap, e1, e2, e3.imp id ?_⟩
    rintro ⟨c, o, arr, t, fz, f1, f2, f3, f4⟩
    exact ⟨c, o, arr, t, fz, f1, f2, f3, fun i hi => ⟨eqvL_rel (f i) (g i) _ (allN_get h3 i hi) (f4 i hi).1, (f4 i hi).2⟩⟩
  | .nul, a, v, h, r => by
    cases a <;> simp only [eqvA] at h <;> first | exact r | cases h
  | .top, a, v, h, r => by simp only [VRel]
  | .func f l r', a, v, h, r => by
    cases a <;> simp only [eqvA] at h <;> first | cases h | skip
    simp only [Bool.and_eq_true] at h
    obtain ⟨h1, h2, h3⟩ := h
    have h1 := beq_eq h1
    subst h1
    simp only [VRel] at r ⊢
    obtain ⟨x, y, e1, e2, e3⟩ := r
    exact ⟨x, y, e1, eqvL_rel l _ _ h2 e2, eqvL_rel r' _ _ h3 e3⟩
  | .nilFunc, a, v, h, r => by
    cases a <;> simp only [eqvA] at h <;> first | exact r | cases h
  | .iface t u, a, v, h, r => by
    cases a <;> simp only [eqvA] at h <;> first | cases h | skip
    simp only [Bool.and_eq_true] at h
    have h1 := beq_eq h.1
    subst h1
    simp only [VRel] at r ⊢
    obtain ⟨x, e1, e2⟩ := r
    exact ⟨x, e1, eqvA_rel u _ x h.2 e2⟩
  | .nilIface, a, v, h, r => by
    cases a <;> simp only [eqvA] at h <;> first | exact r | cases h
  | .agg l, a, v, h, r => by
    cases a <;> simp only [eqvA] at h <;> first | cases h | skip
    simp only [VRel] at r ⊢
    obtain ⟨x, e1, e2⟩ := r
    exact ⟨x, e1, eqvL_rel l _ _ h e2⟩
  | .tup l, a, v, h, r => by
    cases a <;> simp only [eqvA] at h <;> first | cases h | skip
    simp only [VRel] at r ⊢
    obtain ⟨x, e1, e2⟩ := r
    exact ⟨x, e1, eqvL_rel l _ _ h e2⟩
  | .str _, a, v, h, r => by simp [eqvA] at h
  | .unk _, a, v, h, r => by simp [eqvA] at h
  | .alt _ _ _, a, v, h, r => by simp [eqvA] at h
theorem eqvL_rel : ∀ (l m : List AV) (vs : List Value), eqvL m l = true → VRels ex μ m vs → VRels ex μ l vs
  | [], m, vs, h, r => by
    cases m with
    | nil => exact r
    | cons a r => simp [eqvL] at h
  | b :: l, m, vs, h, r => by
    cases m with
    | nil => simp [eqvL] at h
    | cons a m =>
      simp only [eqvL, Bool.and_eq_true] at h
      obtain ⟨v, q, rfl, h1, h2⟩ := r.uncons
      exact VRels.cons (eqvA_rel b a v h.1 h1) (eqvL_rel l m q h.2 h2)
theorem eqvL_length : ∀ (l m : List AV), eqvL m l = true → m.length = l.length
  | [], m, h => by
    cases m with
    | nil => rfl
    | cons a r => simp [eqvL] at h
  | b :: l, m, h => by
    cases m with
    | nil => simp [eqvL] at h
    | cons a m =>
      simp only [eqvL, Bool.and_eq_true] at h
      simp [eqvL_length l m h.2]
end
/-- The contract of one call, with arguments that are known. -/
def litF (A : List AV) (v : AV) : SFM := fun args => cond (eqvL args A) (some (.tt, v, [])) none
theorem SOkM.litF {N : Nat} {lits fk : List Tmp} {An : Ann} {f : FuncId} {fn : Func} (hM : M.Ok P ex) (hf : P.funcs[f]? = some fn) (hA : FnOk P ex 0 fn An) (hc : ∀ (args : Array Value) (w : World), (callFunc f args).run P w = .ok (.enter f args) w)
    {A : List AV} {v : AV} (e : outB (evFnM P ex M lits fk N An fn A []) = some (true, v)) (hv : v.flat = true) : SOkM P ex (f, Lst.litF A v) where
  call := hc
  sound := by
    intro args o u G h ho
    simp only [Lst.litF] at h
    obtain ⟨hq, h⟩ := cond_some h rfl
    cases h
    obtain ⟨o', G', d, h4, h5⟩ := outB_some e
    have hsim := evFnM_sim hM hf hA h4 (Nat.le_refl _) h5
    intro μ vs w hvs hH hd
    refine (hsim μ vs w (eqvL_rel _ _ _ hq hvs) hH hd).mono ?_
    rintro e w' ⟨u, μ', rfl, q1, q2, q3⟩
    have hb : RowKit.Below w.heap.size w w' := q2.below fun i g => hd.out i g (Nat.zero_le _)
    exact ⟨u, μ, rfl, VRel.flat _ _ hv q1, Goes.of_below hH hb, hd⟩
end
end Go.Lst
