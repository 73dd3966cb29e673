/-
  Memory in parts: a part of a heap, assertions over parts, lists of assertions that hold of parts apart from each other; what a call keeps.
-/
import Derived.Test.YtgeldfgcicjidaaGen
import Derived.Test.YtgeldfgcicjidaaPlanIn
namespace Go.Proofs.Ytgeldfgcicjidaa
open Go.RowKit
set_option linter.unusedSimpArgs false
set_option linter.unusedVariables false

/-- A part of a heap. -/
abbrev Part := Nat → Option Obj
/-- What holds of a part. -/
abbrev HP := Part → Prop
def Part.le (h k : Part) : Prop := ∀ b o, h b = some o → k b = some o
def Part.apart (h k : Part) : Prop := ∀ b, h b = none ∨ k b = none
def Part.or (h k : Part) : Part := fun b => match h b with | some o => some o | none => k b
def Part.of (w : World) : Part := fun b => w.heap[b]?
def Part.one (g : Nat) (o : Obj) : Part := fun b => if b = g then some o else none

section
variable {h k l h' k' : Part}
theorem Part.le_refl (h : Part) : h.le h := fun _ _ e => e
theorem Part.le.trans (a : h.le k) (b : k.le l) : h.le l := fun x o e => b x o (a x o e)
theorem Part.apart.symm (a : h.apart k) : k.apart h := fun b => (a b).symm
theorem Part.apart.le (a : h.apart k) (b : h'.le h) (c : k'.le k) : h'.apart k' := fun x => by
  rcases a x with e | e
  · left
    cases hx : h' x with
    | none => rfl
    | some o => rw [b x o hx] at e; cases e
  · right
    cases hx : k' x with
    | none => rfl
    | some o => rw [c x o hx] at e; cases e
theorem Part.or_left (h k : Part) : h.le (h.or k) := fun b o e => by simp [Part.or, e]
theorem Part.or_right (a : h.apart k) : k.le (h.or k) := fun b o e => by
  rcases a b with e' | e'
  · simp [Part.or, e', e]
  · rw [e] at e'; cases e'
theorem Part.or_le (a : h.le l) (b : k.le l) : (h.or k).le l := fun x o e => by
  unfold Part.or at e
  split at e
  · rename_i o' e'; cases e; exact a x _ e'
  · exact b x o e
theorem Part.or_apart (a : h.apart l) (b : k.apart l) : (h.or k).apart l := fun x => by
  rcases a x with e | e
  · rcases b x with e' | e'
    · left; simp [Part.or, e, e']
    · exact .inr e'
  · exact .inr e
theorem Part.one_self (g : Nat) (o : Obj) : Part.one g o g = some o := by simp [Part.one]
end

/-- A list of assertions, each of a part of its own. -/
def Sep : List HP → HP
  | [], _ => True
  | P :: Γ, h => ∃ h1 h2, Part.le h1 h ∧ Part.le h2 h ∧ h1.apart h2 ∧ P h1 ∧ Sep Γ h2

section
variable {P Q : HP} {Γ Δ : List HP} {h k : Part}
theorem Sep.mono (a : h.le k) (b : Sep Γ h) : Sep Γ k := by
  cases Γ with
  | nil => trivial
  | cons P Γ =>
    obtain ⟨h1, h2, l1, l2, ap, hp, hs⟩ := b
    exact ⟨h1, h2, l1.trans a, l2.trans a, ap, hp, hs⟩
theorem Sep.ent (e : ∀ h, P h → Q h) (b : Sep (P :: Γ) h) : Sep (Q :: Γ) h := by
  obtain ⟨h1, h2, l1, l2, ap, hp, hs⟩ := b
  exact ⟨h1, h2, l1, l2, ap, e _ hp, hs⟩
theorem Sep.drop (b : Sep (P :: Γ) h) : Sep Γ h := by
  obtain ⟨h1, h2, l1, l2, ap, hp, hs⟩ := b
  exact hs.mono l2
theorem Sep.swap (b : Sep (P :: Q :: Γ) h) : Sep (Q :: P :: Γ) h := by
  obtain ⟨h1, h2, l1, l2, ap, hp, k1, k2, m1, m2, ap', hq, hs⟩ := b
  refine ⟨k1, h1.or k2, m1.trans l2, Part.or_le l1 (m2.trans l2), ?_, hq, h1, k2, Part.or_left _ _, Part.or_right (ap.le (Part.le_refl _) m2), ap.le (Part.le_refl _) m2, hp, hs⟩
  exact (Part.or_apart (ap.le (Part.le_refl _) m1) ap'.symm).symm
theorem Sep.tail (e : ∀ h, Sep Γ h → Sep Δ h) (b : Sep (P :: Γ) h) : Sep (P :: Δ) h := by
  obtain ⟨h1, h2, l1, l2, ap, hp, hs⟩ := b
  exact ⟨h1, h2, l1, l2, ap, hp, e _ hs⟩
theorem Sep.append : Sep (Γ ++ Δ) h ↔ ∃ h1 h2, Part.le h1 h ∧ Part.le h2 h ∧ h1.apart h2 ∧ Sep Γ h1 ∧ Sep Δ h2 := by
  induction Γ generalizing h with
  | nil =>
    refine ⟨fun b => ⟨fun _ => none, h, (fun _ _ e => by cases e), Part.le_refl _, (fun _ => .inl rfl), trivial, b⟩, ?_⟩
    rintro ⟨h1, h2, l1, l2, ap, _, hs⟩
    exact Sep.mono l2 hs
  | cons P Γ ih =>
    constructor
    · rintro ⟨h1, h2, l1, l2, ap, hp, hs⟩
      obtain ⟨k1, k2, m1, m2, ap', ha, hb⟩ := ih.1 hs
      exact ⟨h1.or k1, k2, Part.or_le l1 (m1.trans l2), m2.trans l2, Part.or_apart (ap.le (Part.le_refl _) m2) ap', ⟨h1, k1, Part.or_left _ _, Part.or_right (ap.le (Part.le_refl _) m1), ap.le (Part.le_refl _) m1, hp, ha⟩, hb⟩
    · rintro ⟨h1, h2, l1, l2, ap, ⟨k1, k2, m1, m2, ap', hp, ha⟩, hb⟩
      refine ⟨k1, k2.or h2, m1.trans l1, Part.or_le (m2.trans l1) l2, ?_, hp, ih.2 ⟨k2, h2, Part.or_left _ _, Part.or_right (ap.le m2 (Part.le_refl _)), ap.le m2 (Part.le_refl _), ha, hb⟩⟩
      exact (Part.or_apart ap'.symm (ap.le m1 (Part.le_refl _)).symm).symm
theorem Sep.flat : Sep (Sep Γ :: Δ) h ↔ Sep (Γ ++ Δ) h := Sep.append.symm
theorem Sep.perm (p : Γ.Perm Δ) (b : Sep Γ h) : Sep Δ h := by
  induction p generalizing h with
  | nil => exact b
  | cons x _ ih => exact Sep.tail (fun _ => ih) b
  | swap x y l => exact Sep.swap b
  | trans _ _ ih1 ih2 => exact ih2 (ih1 b)
theorem Sep.ex {α : Sort _} {R : α → HP} (b : Sep ((fun h => ∃ x, R x h) :: Γ) h) : ∃ x, Sep (R x :: Γ) h := by
  obtain ⟨h1, h2, l1, l2, ap, ⟨x, hp⟩, hs⟩ := b
  exact ⟨x, h1, h2, l1, l2, ap, hp, hs⟩
theorem Sep.pure {φ : Prop} (b : Sep ((fun h => φ ∧ P h) :: Γ) h) : φ ∧ Sep (P :: Γ) h := by
  obtain ⟨h1, h2, l1, l2, ap, ⟨x, hp⟩, hs⟩ := b
  exact ⟨x, h1, h2, l1, l2, ap, hp, hs⟩
end

/-- P stands in Γ; Γ' is what is left. -/
inductive Sel : HP → List HP → List HP → Prop
  | head {P : HP} {Γ : List HP} : Sel P (P :: Γ) Γ
  | tail {P Q : HP} {Γ Γ' : List HP} (h : Sel P Γ Γ') : Sel P (Q :: Γ) (Q :: Γ')
theorem Sel.perm {P : HP} {Γ Γ' : List HP} (h : Sel P Γ Γ') : Γ.Perm (P :: Γ') := by
  induction h with
  | head => exact .refl _
  | tail h ih => exact (ih.cons _).trans (.swap ..)
/-- Ps stand in Γ; Γ' is what is left. -/
inductive Pick : List HP → List HP → List HP → Prop
  | nil {Γ : List HP} : Pick [] Γ Γ
  | cons {P : HP} {Ps Γ Γ1 Γ2 : List HP} (h : Sel P Γ Γ1) (t : Pick Ps Γ1 Γ2) : Pick (P :: Ps) Γ Γ2
theorem Pick.perm {Ps Γ Γ' : List HP} (h : Pick Ps Γ Γ') : Γ.Perm (Ps ++ Γ') := by
  induction h with
  | nil => exact .refl _
  | cons h t ih => exact h.perm.trans (ih.cons _)

/-- What no operation here turns. -/
structure Amb where
  os : Os
  tape : Nat → Question → Nat
  output : Array (Nat × ByteArray)
def World.amb (w : World) : Amb := ⟨w.os, w.tape, w.output⟩
def Holds (ω : Amb) (Γ : List HP) (w : World) : Prop := World.amb w = ω ∧ Sep Γ (Part.of w)

/-- Block g is this object. -/
def blk (g : Nat) (o : Obj) : HP := fun h => h g = some o
/-- Block g is just these cells. -/
def pts (g : Nat) (t : TypeId) (cs : List Value) : HP := blk g (.cells cs.toArray t (0, 0))
/-- All that lay in w lies there still. -/
def kept (w : World) : HP := fun h => ∀ b o, w.heap[b]? = some o → h b = some o

section
variable {ω : Amb} {P Q : HP} {Γ Δ : List HP} {w w' : World} {g : Nat}
theorem Holds.perm (p : Γ.Perm Δ) (b : Holds ω Γ w) : Holds ω Δ w := ⟨b.1, b.2.perm p⟩
theorem Holds.sel {Γ' : List HP} (p : Sel P Γ Γ') (b : Holds ω Γ w) : Holds ω (P :: Γ') w := b.perm p.perm
theorem Holds.unsel {Γ' : List HP} (p : Sel P Γ Γ') (b : Holds ω (P :: Γ') w) : Holds ω Γ w := b.perm p.perm.symm
theorem Holds.ent (e : ∀ h, P h → Q h) (b : Holds ω (P :: Γ) w) : Holds ω (Q :: Γ) w := ⟨b.1, b.2.ent e⟩
theorem Holds.drop (b : Holds ω (P :: Γ) w) : Holds ω Γ w := ⟨b.1, b.2.drop⟩
theorem Holds.flat : Holds ω (Sep Γ :: Δ) w ↔ Holds ω (Γ ++ Δ) w := and_congr_right fun _ => Sep.flat
theorem Holds.pick {Ps Γ' : List HP} (p : Pick Ps Γ Γ') (b : Holds ω Γ w) : Holds ω (Ps ++ [Sep Γ']) w :=
  (Holds.flat.2 ((Holds.perm p.perm b).perm List.perm_append_comm)).perm (List.perm_append_comm (l₁ := [Sep Γ']))
theorem Holds.unpick {Qs Γ' : List HP} (b : Holds ω (Qs ++ [Sep Γ']) w) : Holds ω (Qs ++ Γ') w :=
  (Holds.flat.1 (b.perm (List.perm_append_comm (l₂ := [Sep Γ'])))).perm List.perm_append_comm
theorem Holds.amb (b : Holds ω Γ w) : World.amb w = ω := b.1
theorem Holds.get {Γ' : List HP} (p : Sel P Γ Γ') (b : Holds ω Γ w) : ∃ h, Part.le h (Part.of w) ∧ P h := by
  obtain ⟨_, h1, h2, l1, l2, ap, hp, hs⟩ := b.sel p
  exact ⟨h1, l1, hp⟩
theorem Holds.block {Γ' : List HP} {o : Obj} (p : Sel (blk g o) Γ Γ') (b : Holds ω Γ w) : w.heap[g]? = some o := by
  obtain ⟨h, l, e⟩ := b.get p
  exact l g o e
theorem heap_lt {o : Obj} (h : w.heap[g]? = some o) : g < w.heap.size := (Array.getElem?_eq_some_iff.1 h).1
/-- Only new blocks came. -/
theorem Holds.fr (b : Holds ω Γ w) (hf : Fr nowhere w w') : Holds ω Γ w' :=
  ⟨by rw [← b.1]; simp [World.amb, hf.os, hf.tape, hf.output], b.2.mono fun x o e => (hf.block x (heap_lt e) id).trans e⟩
theorem Holds.drew (b : Holds ω Γ w) : Holds ω Γ w.drew := b
theorem Holds.drewN (n : Nat) (b : Holds ω Γ w) : Holds ω Γ (w.drewN n) := b
/-- A part that is new, and what lay there before. -/
theorem Holds.more (b : Holds ω Γ w) (hf : Fr nowhere w w') (h : Part) (hh : ∀ x o, h x = some o → w.heap.size ≤ x ∧ w'.heap[x]? = some o) (hp : P h) : Holds ω (P :: Γ) w' := by
  refine ⟨(b.fr hf).1, h, Part.of w, fun x o e => (hh x o e).2, fun x o e => (hf.block x (heap_lt e) id).trans e, fun x => ?_, hp, b.2⟩
  cases hx : h x with
  | none => exact .inl rfl
  | some o => exact .inr (Array.getElem?_eq_none (hh x o hx).1)
theorem Holds.alloc (o : Obj) (b : Holds ω Γ w) : Holds ω (blk w.heap.size o :: Γ) (w.alloc o) := by
  refine b.more ((Fr.refl _ _).alloc o) (Part.one w.heap.size o) (fun x o' e => ?_) (Part.one_self _ _)
  unfold Part.one at e
  split at e
  · rename_i hx; subst hx; cases e; exact ⟨Nat.le_refl _, heap_alloc_new _ _⟩
  · cases e
/-- One block turned. -/
theorem Holds.turn {o o' : Obj} (b : Holds ω (blk g o :: Γ) w) (ha : World.amb w' = World.amb w) (hg : w'.heap[g]? = some o') (hs : ∀ x, x ≠ g → x < w.heap.size → w'.heap[x]? = w.heap[x]?) : Holds ω (blk g o' :: Γ) w' := by
  obtain ⟨ba, h1, h2, l1, l2, ap, hp, hr⟩ := b
  have hne : ∀ x o, h2 x = some o → x ≠ g := fun x o e hx => by
    subst hx
    rcases ap x with e' | e'
    · rw [show h1 x = some _ from hp] at e'; cases e'
    · rw [e] at e'; cases e'
  refine ⟨ha.trans ba, Part.one g o', h2, fun x p e => ?_, fun x p e => ?_, fun x => ?_, Part.one_self _ _, hr⟩
  · unfold Part.one at e
    split at e
    · rename_i hx; subst hx; cases e; exact hg
    · cases e
  · exact (hs x (hne x p e) (heap_lt (l2 x p e))).trans (l2 x p e)
  · cases hx : h2 x with
    | none => exact .inr rfl
    | some p => exact .inl (by simp [Part.one, hne x p hx])
theorem Holds.init (w : World) : Holds (World.amb w) [kept w] w := ⟨rfl, Part.of w, fun _ => none, Part.le_refl _, (fun _ _ e => by cases e), (fun _ => .inr rfl), fun _ _ e => e, trivial⟩
theorem Holds.to_fr {w0 : World} {Γ' : List HP} (p : Sel (kept w0) Γ Γ') (b : Holds (World.amb w0) Γ w) : Fr nowhere w0 w := by
  obtain ⟨h, l, e⟩ := b.get p
  have hb : ∀ k, k < w0.heap.size → w.heap[k]? = w0.heap[k]? := fun k hk => by
    have := Array.getElem?_eq_getElem hk
    rw [this]
    exact l k _ (e k _ this)
  have ha := b.1
  simp only [World.amb, Amb.mk.injEq] at ha
  refine ⟨ha.1, ha.2.1, ha.2.2, ?_, fun k hk _ => hb k hk⟩
  rcases Nat.lt_or_ge w.heap.size w0.heap.size with hlt | hge
  · have h1 := hb _ hlt
    rw [Array.getElem?_eq_none (Nat.le_refl _), Array.getElem?_eq_getElem hlt] at h1
    cases h1
  · exact hge
theorem Holds.kept_block {w0 : World} {Γ' : List HP} (p : Sel (kept w0) Γ Γ') (b : Holds ω Γ w) {o : Obj} (hg : w0.heap[g]? = some o) : w.heap[g]? = some o := by
  obtain ⟨h, l, e⟩ := b.get p
  exact l g o (e g o hg)
end

/-- The value that a slot has, out of those that are known. -/
def look : List (Nat × Value) → Nat → Option Value
  | [], _ => none
  | (j, v) :: r, k => match Nat.beq j k with
    | true => some v
    | false => look r k
def ev (β : List (Nat × Value)) : Operand → Option Value
  | .tmp t => look β t
  | .const v => some v
  | .global g => some (.pointer (some ⟨g, 0, none⟩))
  | .func f => some (.func (.func f) #[] #[])
/-- An activation whose slots are known as far as β says. -/
structure Binds (n : Nat) (ds : List Deferred) (β : List (Nat × Value)) (a : Act) : Prop where
  size : a.tmps.size = n
  defers : a.defers = ds
  get : ∀ k v, look β k = some v → a.tmps[k]? = some v

section
variable {n : Nat} {ds : List Deferred} {β β' : List (Nat × Value)} {a : Act}
theorem Binds.eval (h : Binds n ds β a) {x : Operand} {v : Value} (e : ev β x = some v) : a.eval x = v := by
  cases x with
  | tmp t => simp [Act.eval, h.get t v e]
  | const c => cases e; rfl
  | global g => cases e; rfl
  | func f => cases e; rfl
theorem Binds.put (h : Binds n ds β a) {d : Nat} (hd : d < n) (v : Value) : Binds n ds ((d, v) :: β) (a.put (some d) v) := by
  refine ⟨by simp [Act.put, h.size], by simp [Act.put, h.defers], fun k u e => ?_⟩
  unfold look at e
  have hs := h.size
  split at e
  · rename_i hb
    have := Nat.eq_of_beq_eq_true hb
    subst this
    cases e
    simp [Act.put, hs, hd]
  · rename_i hb
    have hne := Nat.ne_of_beq_eq_false hb
    have := h.get k u e
    simp [Act.put, hne, this]
theorem Binds.put' (h : Binds n ds β a) {d : Option Nat} (hd : ∀ k, d = some k → k < n ∧ look β k = none) (v : Value) : Binds n ds β (a.put d v) := by
  cases d with
  | none => exact h
  | some k =>
    obtain ⟨hk, hl⟩ := hd k rfl
    refine ⟨by simp [Act.put, h.size], by simp [Act.put, h.defers], fun j u e => ?_⟩
    have hne : k ≠ j := fun hx => by subst hx; rw [hl] at e; cases e
    simp [Act.put, hne, h.get j u e]
/-- Every binding of β' is one of β. -/
def Sub : List (Nat × Value) → List (Nat × Value) → Prop
  | [], _ => True
  | (k, v) :: r, β => look β k = some v ∧ Sub r β
theorem Binds.sub (h : Binds n ds β a) (s : Sub β' β) : Binds n ds β' a := by
  refine ⟨h.size, h.defers, ?_⟩
  induction β' with
  | nil => intro k v e; cases e
  | cons p r ih =>
    obtain ⟨j, v⟩ := p
    intro k u e
    unfold look at e
    split at e
    · rename_i hb
      have := Nat.eq_of_beq_eq_true hb
      subst this
      cases e
      exact h.get _ _ s.1
    · exact ih s.2 k u e
end

/-- In every state of this kind. -/
def St (ω : Amb) (n : Nat) (ds : List Deferred) (Γ : List HP) (β : List (Nat × Value)) (K : Act → World → Prop) : Prop := ∀ a w, Holds ω Γ w → Binds n ds β a → K a w

section
variable {ω : Amb} {n : Nat} {ds : List Deferred} {Γ Γ' Δ : List HP} {β β' : List (Nat × Value)} {K K' : Act → World → Prop} {P Q : HP}
theorem St.mono (hk : ∀ a w, K a w → K' a w) (h : St ω n ds Γ β K) : St ω n ds Γ β K' := fun a w b c => hk a w (h a w b c)
theorem St.keep (s : Sub β' β) (h : St ω n ds Γ β' K) : St ω n ds Γ β K := fun a w b c => h a w b (c.sub s)
theorem St.perm (p : Γ.Perm Δ) (h : St ω n ds Δ β K) : St ω n ds Γ β K := fun a w b c => h a w (b.perm p) c
theorem St.sel (p : Sel P Γ Γ') (h : St ω n ds (P :: Γ') β K) : St ω n ds Γ β K := fun a w b c => h a w (b.sel p) c
theorem St.drop (h : St ω n ds Γ β K) : St ω n ds (P :: Γ) β K := fun a w b c => h a w b.drop c
theorem St.ent (e : ∀ h, P h → Q h) (h : St ω n ds (Q :: Γ) β K) : St ω n ds (P :: Γ) β K := fun a w b c => h a w (b.ent e) c
theorem St.flat (h : St ω n ds (Γ ++ Δ) β K) : St ω n ds (Sep Γ :: Δ) β K := fun a w b c => h a w (Holds.flat.1 b) c
theorem St.unflat (h : St ω n ds (Sep Γ :: Δ) β K) : St ω n ds (Γ ++ Δ) β K := fun a w b c => h a w (Holds.flat.2 b) c
theorem St.ex {α : Sort _} {R : α → HP} (h : ∀ x, St ω n ds (R x :: Γ) β K) : St ω n ds ((fun p => ∃ x, R x p) :: Γ) β K := fun a w b c => by
  obtain ⟨x, hx⟩ := Sep.ex b.2
  exact h x a w ⟨b.1, hx⟩ c
theorem St.pure {φ : Prop} (h : φ → St ω n ds (P :: Γ) β K) : St ω n ds ((fun p => φ ∧ P p) :: Γ) β K := fun a w b c => by
  obtain ⟨x, hx⟩ := Sep.pure b.2
  exact h x a w ⟨b.1, hx⟩ c
end
end Go.Proofs.Ytgeldfgcicjidaa
