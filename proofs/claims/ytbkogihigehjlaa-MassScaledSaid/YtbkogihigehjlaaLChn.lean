/- Outcomes of code as chains of exits, each with the truth under which it is met. -/
import Derived.Test.YtbkogihigehjlaaLLift
namespace Go.Lst

inductive Ch where
  | last (e : Exit) (s : St)
  | more (e : Exit) (g : Bool) (s : St) (r : Ch)
def sel : Ch → Exit × St
  | .last e s => (e, s)
  | .more e g s r => cond g (e, s) (sel r)
def rank : Exit → Nat
  | .ret => 0
  | .exit id => id + 1
  | _ => 1000000
def sameExit : Exit → Exit → Bool
  | .ret, .ret => true
  | .normal, .normal => true
  | .exit i, .exit j => Nat.beq i j
  | _, _ => false
theorem sameExit_eq {e f : Exit} (h : sameExit e f = true) : e = f := by
  cases e <;> cases f <;> simp only [sameExit] at h
  all_goals first | rfl | (exact congrArg Exit.exit (Nat.eq_of_beq_eq_true h)) | cases h
def mergeLast (b : Bool) (z : St) (e : Exit) (s : St) : Ch → Ch
  | .last f t => cond (sameExit e f) (.last e (mergeS b z s t)) (cond (Nat.blt (rank e) (rank f)) (.more e b s (.last f t)) (.more f (!b) t (.last e s)))
  | .more f g t r => cond (sameExit e f) (.more e (cond b true g) (mergeS b z s t) r) (cond (Nat.blt (rank e) (rank f)) (.more e b s (.more f g t r)) (.more f (cond b false g) t (mergeLast b z e s r)))
def mergeMore (b : Bool) (z : St) (e : Exit) (g : Bool) (s : St) (mr : Ch → Ch) (r : Ch) : Ch → Ch
  | .last f t => cond (sameExit e f) (.more e (cond b g true) (mergeS b z s t) r) (cond (Nat.blt (rank e) (rank f)) (.more e (cond b g false) s (mr (.last f t))) (.more f (!b) t (.more e g s r)))
  | .more f h t q => cond (sameExit e f) (.more e (cond b g h) (mergeS b z s t) (mr q))
      (cond (Nat.blt (rank e) (rank f)) (.more e (cond b g false) s (mr (.more f h t q))) (.more f (cond b false h) t (mergeMore b z e g s mr r q)))
def merge (b : Bool) (z : St) : Ch → Ch → Ch
  | .last e s => mergeLast b z e s
  | .more e g s r => mergeMore b z e g s (merge b z r) r

/-- All states of a chain come behind z. -/
def AllI (z : St) : Ch → Prop
  | .last _ s => InvW z s
  | .more _ _ s r => InvW z s ∧ AllI z r
theorem AllI.sel {z : St} : ∀ {c : Ch}, AllI z c → InvW z (Lst.sel c).2
  | .last _ _, h => h
  | .more e g s r, h => by
    cases g with
    | false => show InvW z (Lst.sel r).2; exact AllI.sel h.2
    | true => exact h.1
theorem AllI.trans {y z : St} (h : InvW y z) : ∀ {c : Ch}, AllI z c → AllI y c
  | .last _ _, g => h.trans g
  | .more _ _ _ _, g => ⟨h.trans g.1, AllI.trans h g.2⟩
theorem mergeLast_inv {b : Bool} {z : St} {e : Exit} {s : St} (hs : InvW z s) : ∀ {y : Ch}, AllI z y → AllI z (mergeLast b z e s y)
  | .last f t, h => by
    unfold mergeLast
    cases sameExit e f
    · cases Nat.blt (rank e) (rank f)
      · exact ⟨h, hs⟩
      · exact ⟨hs, h⟩
    · exact (mergeS_inv b hs h).w
  | .more f g t r, h => by
    unfold mergeLast
    cases sameExit e f
    · cases Nat.blt (rank e) (rank f)
      · exact ⟨h.1, mergeLast_inv hs h.2⟩
      · exact ⟨hs, h⟩
    · exact ⟨(mergeS_inv b hs h.1).w, h.2⟩
theorem mergeMore_inv {b : Bool} {z : St} {e : Exit} {g : Bool} {s : St} {mr : Ch → Ch} {r : Ch} (hs : InvW z s) (hr : AllI z r) (hm : ∀ y, AllI z y → AllI z (mr y)) : ∀ {y : Ch}, AllI z y → AllI z (mergeMore b z e g s mr r y)
  | .last f t, h => by
    unfold mergeMore
    cases sameExit e f
    · cases Nat.blt (rank e) (rank f)
      · exact ⟨h, hs, hr⟩
      · exact ⟨hs, hm (.last f t) h⟩
    · exact ⟨(mergeS_inv b hs h).w, hr⟩
  | .more f k t q, h => by
    unfold mergeMore
    cases sameExit e f
    · cases Nat.blt (rank e) (rank f)
      · exact ⟨h.1, mergeMore_inv hs hr hm h.2⟩
      · exact ⟨hs, hm (.more f k t q) h⟩
    · exact ⟨(mergeS_inv b hs h.1).w, hm q h.2⟩
theorem merge_inv {b : Bool} {z : St} : ∀ {x y : Ch}, AllI z x → AllI z y → AllI z (merge b z x y)
  | .last _ _, _, h, g => mergeLast_inv h g
  | .more _ _ _ _, _, h, g => mergeMore_inv h.1 h.2 (fun _ hy => merge_inv h.2 hy) g

/-- What one stands for the other's choice. -/
structure Sel (ex : Bool) (z : St) (p q : Exit × St) : Prop where
  e : q.1 = p.1
  le : SLe ex p.2 q.2
  inv : Inv z q.2
section
variable {ex : Bool}
theorem Sel.refl {z : St} {p : Exit × St} (h : Inv z p.2) : Sel ex z p p := ⟨rfl, SLe.refl ex _, h⟩
theorem Sel.trans {z : St} {p q r : Exit × St} (h : Sel ex z p q) (g : Sel ex z q r) : Sel ex z p r := ⟨g.e.trans h.e, h.le.trans g.le, g.inv⟩
theorem sel_s {z x y : St} (b : Bool) (e : Exit) (hx : InvW z x) (hy : InvW z y) (h : Inv z (cond b x y)) : Sel ex z (e, cond b x y) (e, mergeS b z x y) := ⟨rfl, mergeS_le b h, mergeS_inv b hx hy⟩
theorem sel_mergeLast (b : Bool) (z : St) (e : Exit) (s : St) (hs : InvW z s) : ∀ y, AllI z y → Inv z (cond b (e, s) (sel y)).2 → Sel ex z (cond b (e, s) (sel y)) (sel (mergeLast b z e s y))
  | .last f t, hy, h => by
    unfold mergeLast
    cases hq : sameExit e f
    · cases Nat.blt (rank e) (rank f) <;> cases b <;> exact Sel.refl h
    · have := sameExit_eq hq; subst this
      cases b
      · exact sel_s (x := s) (y := t) false e hs hy h
      · exact sel_s (x := s) (y := t) true e hs hy h
  | .more f g t r, hy, h => by
    unfold mergeLast
    cases hq : sameExit e f
    · cases Nat.blt (rank e) (rank f)
      · cases b
        · cases g
          · exact sel_mergeLast false z e s hs r hy.2 h
          · exact Sel.refl h
        · exact sel_mergeLast true z e s hs r hy.2 h
      · cases b <;> exact Sel.refl h
    · have := sameExit_eq hq; subst this
      cases b
      · cases g
        · exact Sel.refl h
        · exact sel_s (x := s) (y := t) false e hs hy.1 h
      · exact sel_s (x := s) (y := t) true e hs hy.1 h
theorem sel_mergeMore (b : Bool) (z : St) (e : Exit) (g : Bool) (s : St) (mr : Ch → Ch) (r : Ch) (hs : InvW z s) (hm : ∀ y, AllI z y → Inv z (cond b (sel r) (sel y)).2 → Sel ex z (cond b (sel r) (sel y)) (sel (mr y))) :
    ∀ y, AllI z y → Inv z (cond b (cond g (e, s) (sel r)) (sel y)).2 → Sel ex z (cond b (cond g (e, s) (sel r)) (sel y)) (sel (mergeMore b z e g s mr r y))
  | .last f t, hy, h => by
    unfold mergeMore
    cases hq : sameExit e f
    · cases Nat.blt (rank e) (rank f)
      · cases b <;> exact Sel.refl h
      · cases b
        · exact hm (.last f t) hy h
        · cases g
          · exact hm (.last f t) hy h
          · exact Sel.refl h
    · have := sameExit_eq hq; subst this
      cases b
      · exact sel_s (x := s) (y := t) false e hs hy h
      · cases g
        · exact Sel.refl h
        · exact sel_s (x := s) (y := t) true e hs hy h
  | .more f k t q, hy, h => by
    unfold mergeMore
    cases hq : sameExit e f
    · cases Nat.blt (rank e) (rank f)
      · cases b
        · cases k
          · exact sel_mergeMore false z e g s mr r hs hm q hy.2 h
          · exact Sel.refl h
        · exact sel_mergeMore true z e g s mr r hs hm q hy.2 h
      · cases b
        · exact hm (.more f k t q) hy h
        · cases g
          · exact hm (.more f k t q) hy h
          · exact Sel.refl h
    · have := sameExit_eq hq; subst this
      cases b
      · cases k
        · exact hm q hy.2 h
        · exact sel_s (x := s) (y := t) false e hs hy.1 h
      · cases g
        · exact hm q hy.2 h
        · exact sel_s (x := s) (y := t) true e hs hy.1 h
theorem sel_merge (b : Bool) (z : St) : ∀ x y, AllI z x → AllI z y → Inv z (cond b (sel x) (sel y)).2 → Sel ex z (cond b (sel x) (sel y)) (sel (merge b z x y))
  | .last e s, y, hx, hy, h => sel_mergeLast b z e s hx y hy h
  | .more e g s r, y, hx, hy, h => sel_mergeMore b z e g s (merge b z r) r hx.1 (fun y hy h => sel_merge b z r y hx.2 hy h) y hy h

/-- Two outcomes side by side, nothing made one. -/
def app (b : Bool) : Ch → Ch → Ch
  | .last e s, y => .more e b s y
  | .more e g s r, y => .more e (b && g) s (app b r y)
theorem sel_app (b : Bool) : ∀ x y, sel (app b x y) = cond b (sel x) (sel y)
  | .last e s, y => rfl
  | .more e g s r, y => by
    simp only [app, sel]
    rw [sel_app b r y]
    cases b <;> cases g <;> rfl
def appO (g : Bool) : Option Ch → Option Ch → Option Ch
  | some x, some y => some (app g x y)
  | none, y => cond g none y
  | x, none => cond g x none
theorem appO_sel {g : Bool} {x y : Option Ch} {c : Ch} (h : appO g x y = some c) : ∃ a, cond g x y = some a ∧ sel c = sel a := by
  cases x with
  | none => exact ⟨c, h, rfl⟩
  | some a =>
    cases y with
    | none => exact ⟨c, h, rfl⟩
    | some a2 =>
      have h' : some (app g a a2) = some c := h
      simp only [Option.some.injEq] at h'
      subst h'
      rw [sel_app]
      cases g
      · exact ⟨a2, rfl, rfl⟩
      · exact ⟨a, rfl, rfl⟩
/-- Code, and behind it, where it ends as it should, more. -/
def bindN (z : St) : Ch → (St → Option Ch) → Option Ch
  | .last .normal s, f => f s
  | .last e s, _ => some (.last e s)
  | .more .normal g s r, f => appO g (f s) (bindN z r f)
  | .more e g s r, f => match bindN z r f with | some c => some (merge g z (.last e s) c) | none => cond g (some (.last e s)) none
theorem app_inv {b : Bool} {z : St} : ∀ {x y : Ch}, AllI z x → AllI z y → AllI z (app b x y)
  | .last _ _, _, h, g => ⟨h, g⟩
  | .more _ _ _ _, _, h, g => ⟨h.1, app_inv h.2 g⟩
theorem appO_inv {g : Bool} {z : St} {x y : Option Ch} {c : Ch} (h : appO g x y = some c) (hx : ∀ a, x = some a → AllI z a) (hy : ∀ a, y = some a → AllI z a) : AllI z c := by
  cases x with
  | none =>
    cases g with
    | true => cases (h : cond true none y = some c)
    | false => exact hy c h
  | some a =>
    cases y with
    | none =>
      cases g with
      | true => exact hx c h
      | false => cases (h : cond false (some a) none = some c)
    | some a2 =>
      have h' : some (app g a a2) = some c := h
      simp only [Option.some.injEq] at h'
      subst h'
      exact app_inv (hx a rfl) (hy a2 rfl)
theorem bindN_inv {z : St} {f : St → Option Ch} (hf : ∀ s c, f s = some c → AllI s c) : ∀ {c c' : Ch}, AllI z c → bindN z c f = some c' → AllI z c'
  | .last e s, c', hz, h => by
    cases e with
    | normal => exact (hf s c' h).trans hz
    | _ => simp only [bindN, Option.some.injEq] at h; subst h; exact hz
  | .more e g s r, c', hz, h => by
    have go : (match bindN z r f with | some c => some (merge g z (.last e s) c) | none => cond g (some (.last e s)) none) = some c' → AllI z c' := by
      intro h
      cases hr : bindN z r f with
      | none =>
        rw [hr] at h
        cases g with
        | true => cases h; exact hz.1
        | false => cases h
      | some c =>
        rw [hr] at h
        simp only [Option.some.injEq] at h
        subst h
        exact merge_inv (x := .last e s) hz.1 (bindN_inv hf hz.2 hr)
    cases e with
    | normal => exact appO_inv (h : appO g (f s) (bindN z r f) = some c') (fun a ha => (hf s a ha).trans hz.1) (fun a ha => bindN_inv hf hz.2 ha)
    | ret => exact go h
    | exit i => exact go h
    | goto l => exact go h
    | panic p => exact go h
    | outgrown => exact go h
/-- What it comes to. -/
def Bound (ex : Bool) (z : St) (p : Exit × St) (f : St → Option Ch) (q : Exit × St) : Prop :=
  (p.1 = .normal ∧ ∃ c, f p.2 = some c ∧ Sel ex z (sel c) q) ∨ (p.1 ≠ .normal ∧ Sel ex z p q)
theorem Bound.step {z : St} {p q r : Exit × St} {f : St → Option Ch} (h : Bound ex z p f q) (g : Sel ex z q r) : Bound ex z p f r := by
  rcases h with ⟨h1, c, h2, h3⟩ | ⟨h1, h2⟩
  · exact .inl ⟨h1, c, h2, h3.trans g⟩
  · exact .inr ⟨h1, h2.trans g⟩
theorem Bound.inv {z : St} {p q : Exit × St} {f : St → Option Ch} (h : Bound ex z p f q) : Inv z q.2 := by
  rcases h with ⟨_, _, _, h3⟩ | ⟨_, h2⟩
  · exact h3.inv
  · exact h2.inv
theorem bindN_sel (z : St) (f : St → Option Ch) (hf : ∀ s c, f s = some c → AllI s c) (hf2 : ∀ s c, f s = some c → Inv s (sel c).2) : ∀ c c', AllI z c → Inv z (sel c).2 → bindN z c f = some c' → Bound ex z (sel c) f (sel c')
  | .last e s, c', hz, hi, h => by
    cases e with
    | normal => exact .inl ⟨rfl, c', h, Sel.refl (hi.trans (hf2 s c' h))⟩
    | _ => simp only [bindN, Option.some.injEq] at h; subst h; exact .inr ⟨by simp [sel], Sel.refl hi⟩
  | .more e g s r, c', hz, hi, h => by
    have go : ∀ (hne : e ≠ .normal), (match bindN z r f with | some c => some (merge g z (.last e s) c) | none => cond g (some (.last e s)) none) = some c' → Bound ex z (sel (.more e g s r)) f (sel c') := by
      intro hne h
      cases hr : bindN z r f with
      | none =>
        rw [hr] at h
        cases g with
        | true => cases h; exact .inr ⟨hne, Sel.refl hi⟩
        | false => cases h
      | some c =>
        rw [hr] at h
        simp only [Option.some.injEq] at h
        subst h
        have hc := bindN_inv hf hz.2 hr
        cases g with
        | true => exact .inr ⟨hne, sel_merge true z (.last e s) c hz.1 hc hi⟩
        | false =>
          have hb := bindN_sel z f hf hf2 r c hz.2 hi hr
          exact hb.step (sel_merge false z (.last e s) c hz.1 hc hb.inv)
    cases e with
    | normal =>
      obtain ⟨a, ha, hs⟩ := appO_sel (h : appO g (f s) (bindN z r f) = some c')
      rw [hs]
      cases g with
      | true => exact .inl ⟨rfl, a, ha, Sel.refl (Inv.trans hi (hf2 s a ha))⟩
      | false => exact bindN_sel z f hf hf2 r a hz.2 hi ha
    | ret => exact go (by simp) h
    | exit i => exact go (by simp) h
    | goto l => exact go (by simp) h
    | panic p => exact go (by simp) h
    | outgrown => exact go (by simp) h
def unEx (id : Nat) : Exit → Exit
  | .exit i => cond (Nat.beq i id) .normal (.exit i)
  | e => e
def unexit (z : St) (id : Nat) : Ch → Ch
  | .last e s => .last (unEx id e) s
  | .more .normal g s r => .more .normal g s (unexit z id r)
  | .more e g s r => merge g z (.last (unEx id e) s) (unexit z id r)
theorem unexit_inv {z : St} {id : Nat} : ∀ {c : Ch}, AllI z c → AllI z (unexit z id c)
  | .last _ _, h => h
  | .more e g s r, h => by
    cases e with
    | normal => exact ⟨h.1, unexit_inv h.2⟩
    | ret => exact merge_inv (x := .last _ s) h.1 (unexit_inv h.2)
    | exit i => exact merge_inv (x := .last _ s) h.1 (unexit_inv h.2)
    | goto l => exact merge_inv (x := .last _ s) h.1 (unexit_inv h.2)
    | panic p => exact merge_inv (x := .last _ s) h.1 (unexit_inv h.2)
    | outgrown => exact merge_inv (x := .last _ s) h.1 (unexit_inv h.2)
theorem unexit_sel (z : St) (id : Nat) : ∀ c, AllI z c → Inv z (sel c).2 → Sel ex z (unEx id (sel c).1, (sel c).2) (sel (unexit z id c))
  | .last e s, hz, h => Sel.refl h
  | .more e g s r, hz, h => by
    have go : Sel ex z (unEx id (sel (.more e g s r)).1, (sel (.more e g s r)).2) (sel (merge g z (.last (unEx id e) s) (unexit z id r))) := by
      cases g with
      | true => exact sel_merge true z (.last (unEx id e) s) (unexit z id r) hz.1 (unexit_inv hz.2) h
      | false =>
        have hb := unexit_sel z id r hz.2 h
        exact hb.trans (sel_merge false z (.last (unEx id e) s) (unexit z id r) hz.1 (unexit_inv hz.2) hb.inv)
    cases e with
    | normal =>
      cases g with
      | true => exact Sel.refl h
      | false => exact unexit_sel z id r hz.2 h
    | ret => exact go
    | exit i => exact go
    | goto l => exact go
    | panic p => exact go
    | outgrown => exact go
def mrgC (b : Bool) (z : St) : Option Ch → Option Ch → Option Ch
  | some x, some y => some (merge b z x y)
  | none, y => cond b none y
  | x, none => cond b x none
theorem mrgC_inv {b : Bool} {z : St} {x y : Option Ch} {c : Ch} (h : mrgC b z x y = some c) (hx : ∀ a, x = some a → AllI z a) (hy : ∀ a, y = some a → AllI z a) : AllI z c := by
  cases x with
  | none =>
    cases b with
    | true => cases (h : cond true none y = some c)
    | false => exact hy c h
  | some a =>
    cases y with
    | none =>
      cases b with
      | true => exact hx c h
      | false => cases (h : cond false (some a) none = some c)
    | some a2 =>
      have h' : some (merge b z a a2) = some c := h
      simp only [Option.some.injEq] at h'
      subst h'
      exact merge_inv (hx a rfl) (hy a2 rfl)
theorem mrgC_sel {b : Bool} {z : St} {x y : Option Ch} {c : Ch} (h : mrgC b z x y = some c) (hx : ∀ a, x = some a → AllI z a) (hy : ∀ a, y = some a → AllI z a) (hi : ∀ a, cond b x y = some a → Inv z (sel a).2) : ∃ a, cond b x y = some a ∧ Sel ex z (sel a) (sel c) := by
  cases x with
  | none => exact ⟨c, h, Sel.refl (hi c h)⟩
  | some a =>
    cases y with
    | none => exact ⟨c, h, Sel.refl (hi c h)⟩
    | some a2 =>
      have h' : some (merge b z a a2) = some c := h
      simp only [Option.some.injEq] at h'
      subst h'
      cases b with
      | true => exact ⟨a, rfl, sel_merge true z a a2 (hx a rfl) (hy a2 rfl) (hi a rfl)⟩
      | false => exact ⟨a2, rfl, sel_merge false z a a2 (hx a rfl) (hy a2 rfl) (hi a2 rfl)⟩
end
end Go.Lst
