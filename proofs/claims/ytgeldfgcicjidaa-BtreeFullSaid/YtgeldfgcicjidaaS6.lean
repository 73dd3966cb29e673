/-
  A region that draws its order, step by step, in states known by their parts: what only reads is taken as soon as it may come; whatever else comes is alone, or comes in either order.
-/
import Derived.Test.YtgeldfgcicjidaaS5
namespace Go.Proofs.Ytgeldfgcicjidaa
open Go.RowKit
set_option linter.unusedSimpArgs false
set_option linter.unusedVariables false

/-- A reading that was taken: its operation, what was known, the value. -/
abbrev Took := Nat × List (Nat × Value) × Value

section
variable {P : Program} {ω : Amb} {n : Nat} {ds : List Deferred} {Γ Γ' Γ1 Δ : List HP} {β β' : List (Nat × Value)} {r : Option Nat} {ops : Array Oper} {Q : Exit → Act → World → Prop} {W : List (List Nat)}

def tookS (P : Program) (ω : Amb) (n : Nat) (ds : List Deferred) (ops : Array Oper) (x : Took) : World → Prop := fun w => ∃ Γ, Holds ω Γ w ∧ Reads P ω n ds Γ x.2.1 (ops.getD x.1 default) x.2.2
/-- Whatever comes next. -/
def AnyS (P : Program) (ω : Amb) (n : Nat) (ds : List Deferred) (r : Option Nat) (ops : Array Oper) (Q : Exit → Act → World → Prop) (W : List (List Nat)) (fuel : Nat) (hs : List Took) (L : Array Bool) (Γ : List HP) (β : List (Nat × Value)) : Prop :=
  ∀ a w, Holds ω Γ w → Binds n ds β a → (∀ x ∈ hs, tookS P ω n ds ops x w) → wpAnyMI (wd r) 0 P .any ops Q (fun i => W.getD i []) fuel (hs.map fun x => (x.1, tookS P ω n ds ops x)) L a w
/-- The readings that were taken, and might come behind operation j, are what they were; what need not be held any more is left out. -/
inductive Beh (P : Program) (ω : Amb) (n : Nat) (ds : List Deferred) (ops : Array Oper) (W : List (List Nat)) (j : Nat) (Γ : List HP) : List Took → List Took → Prop
  | nil : Beh P ω n ds ops W j Γ [] []
  | drop {i : Nat} {β : List (Nat × Value)} {v : Value} {hs hs' : List Took} (h : (W.getD i []).contains j = true) (h' : Beh P ω n ds ops W j Γ hs hs') : Beh P ω n ds ops W j Γ ((i, β, v) :: hs) hs'
  | keep {i : Nat} {β : List (Nat × Value)} {v : Value} {o : Oper} {hs hs' : List Took} (h : (W.getD i []).contains j = false) (ho : ops[i]? = some o) (hr : Reads P ω n ds Γ β o v) (h' : Beh P ω n ds ops W j Γ hs hs') : Beh P ω n ds ops W j Γ ((i, β, v) :: hs) ((i, β, v) :: hs')
theorem Beh.all {j : Nat} {hs hs' : List Took} (h : Beh P ω n ds ops W j Γ hs hs') : ∀ x ∈ hs, (W.getD x.1 []).contains j = false → Reads P ω n ds Γ x.2.1 (ops.getD x.1 default) x.2.2 := by
  induction h with
  | nil => intro x hx; cases hx
  | drop h h' ih =>
    intro x hx hn
    rcases List.mem_cons.1 hx with rfl | hx
    · rw [h] at hn; cases hn
    · exact ih x hx hn
  | keep h ho hr h' ih =>
    intro x hx hn
    rcases List.mem_cons.1 hx with rfl | hx
    · rw [Array.getD_eq_getD_getElem?, ho]; exact hr
    · exact ih x hx hn
theorem Beh.eq {j : Nat} {hs hs' : List Took} (h : Beh P ω n ds ops W j Γ hs hs') : hs' = hs.filter fun x => !(W.getD x.1 []).contains j := by
  induction h with
  | nil => rfl
  | drop h h' ih => rw [List.filter_cons, ← ih, h]; rfl
  | keep h ho hr h' ih => rw [List.filter_cons, ← ih, h]; rfl
def takeMay (ops : Array Oper) (W : List (List Nat)) (L : Array Bool) (i : Nat) : Bool :=
  (Region.ready .any ops L).contains i && Region.free .any ops L i && waitsOk .any ops (fun i => W.getD i []) i && ((W.getD i []).all fun k => !L.getD k false)
theorem noPanic {F : Fence} {m : Nat} {Q' : Act → World → Prop} {o : Oper} {a : Act} {w : World} (h : o.wpIn F m P a w Q' (Exit.then Q' nopost)) : o.wpIn F m P a w Q' Q := by
  unfold Oper.wpIn at *
  refine ⟨h.1, ?_⟩
  have h := h.2
  generalize (o.semAt F.round a.eval).run P w = r at *
  cases r with
  | ok x w' =>
    cases x <;> simp only [Oper.uponIn] at h ⊢
    case enter f args => exact ⟨h.1, h.2.mono fun e w'' he => by
      cases e with
      | returned v => exact he
      | panicked c => exact he.elim
      | outgrown => obtain ⟨a, w, hh⟩ := he; exact hh.elim⟩
    case round l f tmps assign body => exact ⟨h.1, h.2.mono fun e w'' he => by
      cases e with
      | returned v => exact he
      | panicked c => exact he.elim
      | outgrown => obtain ⟨a, w, hh⟩ := he; exact hh.elim⟩
    all_goals exact h
  | halt x w' => cases x <;> simp only [Oper.uponIn] at h ⊢; exact h.elim
theorem wpAnyMI_true {F : Fence} {m : Nat} {md : Region.Mode} {W : Nat → List Nat} : ∀ (fuel : Nat) (hs hs' : List (Nat × (World → Prop))) (L : Array Bool) (a : Act) (w : World), (∀ h ∈ hs', h ∈ hs ∨ ∀ w, h.2 w) →
    wpAnyMI F m P md ops Q W fuel hs L a w → wpAnyMI F m P md ops Q W fuel hs' L a w
  | 0, _, _, _, _, _, _, h => h
  | fuel + 1, hs, hs', L, a, w, hsub, h => ⟨h.1, fun j hj => wpOpIn_mono (fun a' w' h' => ⟨fun x hx hn => (hsub x hx).elim (fun hm => h'.1 x hm hn) (fun hm => hm w'),
      wpAnyMI_true fuel _ _ _ a' w' (fun x hx => by
        rw [List.mem_filter] at hx
        rcases hsub x hx.1 with hm | hm
        · exact .inl (by rw [List.mem_filter]; exact ⟨hm, hx.2⟩)
        · exact .inr hm) h'.2⟩) (h.2 j hj)⟩
/-- A reading is taken. -/
theorem any_take {fuel : Nat} {hs : List Took} {L : Array Bool} {i d : Nat} {o : Oper} {v : Value} (hok : (Region.noSelect ops && noDefer ops && takeMay ops W L i) = true) (ho : ops[i]? = some o) (hdst : o.dst = some d) (hd : d < n)
    (hQ : ∀ c d v a w, Q (.panic c) (a.put (some d) v) w → Q (.panic c) a w) (hw : wants ops β o.guard = some true) (hr : Reads P ω n ds Γ β o v)
    (h : AnyS P ω n ds r ops Q W fuel ((i, β, v) :: hs) (L.setIfInBounds i true) Γ ((d, v) :: β)) : AnyS P ω n ds r ops Q W (fuel + 1) hs L Γ β := by
  intro a w hh hb hall
  simp only [Bool.and_eq_true, takeMay] at hok
  obtain ⟨⟨hsel, hnd⟩, ⟨⟨hrd, hfree⟩, hW⟩, hun⟩ := hok
  have hgd : ops.getD i default = o := by rw [Array.getD_eq_getD_getElem?, ho]; rfl
  have hS : tookS P ω n ds ops (i, β, v) w := ⟨Γ, hh, by rw [hgd]; exact hr⟩
  refine wpAnyMI_first (S := tookS P ω n ds ops (i, β, v)) ho (Region.noSelect_spec hsel) hQ hW hnd (fun f => wd_fn r f) fuel _ L a w (Region.free_spec ho hfree) (fun k hk => by have := List.all_eq_true.1 hun k hk; simpa using this) (by simpa using hrd)
    (.inl ⟨wanted_of hb hw, fun w' ⟨Γ', hh', hr'⟩ => by rw [hgd] at hr'; exact hr' a w' hh' hb⟩) hS ?_ ?_
  · intro x hx
    obtain ⟨y, hy, rfl⟩ := List.mem_map.1 hx
    exact hall y hy
  · rw [hdst]
    exact h _ _ hh (hb.put hd v) (fun x hx => by
      rcases List.mem_cons.1 hx with rfl | hx
      · exact hS
      · exact hall x hx)
/-- An operation that is not carried out is taken. -/
theorem any_skip {fuel : Nat} {hs : List Took} {L : Array Bool} {i d : Nat} {o : Oper} (hok : (Region.noSelect ops && noDefer ops && takeMay ops W L i) = true) (ho : ops[i]? = some o) (hdst : o.dst = some d) (hd : d < n)
    (hQ : ∀ c d v a w, Q (.panic c) (a.put (some d) v) w → Q (.panic c) a w) (hw : wants ops β o.guard = some false)
    (h : AnyS P ω n ds r ops Q W fuel hs (L.setIfInBounds i true) Γ ((d, undef) :: β)) : AnyS P ω n ds r ops Q W (fuel + 1) hs L Γ β := by
  intro a w hh hb hall
  simp only [Bool.and_eq_true, takeMay] at hok
  obtain ⟨⟨hsel, hnd⟩, ⟨⟨hrd, hfree⟩, hW⟩, hun⟩ := hok
  refine wpAnyMI_first (S := fun _ => True) ho (Region.noSelect_spec hsel) hQ hW hnd (fun f => wd_fn r f) fuel _ L a w (Region.free_spec ho hfree) (fun k hk => by have := List.all_eq_true.1 hun k hk; simpa using this) (by simpa using hrd)
    (.inr ⟨wanted_of hb hw, rfl⟩) trivial ?_ ?_
  · intro x hx
    obtain ⟨y, hy, rfl⟩ := List.mem_map.1 hx
    exact hall y hy
  · rw [hdst]
    exact wpAnyMI_true _ _ _ _ _ _ (fun x hx => by
      rcases List.mem_cons.1 hx with rfl | hx
      · exact .inr fun _ => trivial
      · exact .inl hx) (h _ _ hh (hb.put hd undef) hall)
/-- What has to hold behind operation j. -/
def behind (P : Program) (ω : Amb) (n : Nat) (ds : List Deferred) (r : Option Nat) (ops : Array Oper) (Q : Exit → Act → World → Prop) (W : List (List Nat)) (fuel : Nat) (hs : List Took) (L : Array Bool) (j : Nat) : Act → World → Prop :=
  fun a w => ∃ Γ' β' hs', Holds ω Γ' w ∧ Binds n ds β' a ∧ Beh P ω n ds ops W j Γ' hs hs' ∧ AnyS P ω n ds r ops Q W fuel hs' (L.setIfInBounds j true) Γ' β'
theorem any_next {fuel : Nat} {hs hs' : List Took} {L : Array Bool} {j : Nat} (hh : Beh P ω n ds ops W j Γ hs hs') (h : AnyS P ω n ds r ops Q W fuel hs' (L.setIfInBounds j true) Γ β) : St ω n ds Γ β (behind P ω n ds r ops Q W fuel hs L j) :=
  fun _ _ b c => ⟨Γ, β, hs', b, c, hh, h⟩
theorem run_behind {fuel : Nat} {hs : List Took} {L : Array Bool} {j : Nat} {o : Oper} (ho : ops[j]? = some o) (h : St ω n ds Γ β (Run P r ops (Exit.then (behind P ω n ds r ops Q W fuel hs L j) nopost) [o])) :
    ∀ a w, Holds ω Γ w → Binds n ds β a → wpOpIn (wd r) 0 P ops Q j (fun a' w' => (∀ x ∈ hs.map (fun x => (x.1, tookS P ω n ds ops x)), j ∉ (fun i => W.getD i []) x.1 → x.2 w') ∧ wpAnyMI (wd r) 0 P .any ops Q (fun i => W.getD i []) fuel ((hs.map fun x => (x.1, tookS P ω n ds ops x)).filter fun x => !((fun i => W.getD i []) x.1).contains j) (L.setIfInBounds j true) a' w') a w := by
  intro a w hh hb
  have key : ∀ a' w', behind P ω n ds r ops Q W fuel hs L j a' w' → (∀ x ∈ hs.map (fun x => (x.1, tookS P ω n ds ops x)), j ∉ (fun i => W.getD i []) x.1 → x.2 w') ∧ wpAnyMI (wd r) 0 P .any ops Q (fun i => W.getD i []) fuel ((hs.map fun x => (x.1, tookS P ω n ds ops x)).filter fun x => !((fun i => W.getD i []) x.1).contains j) (L.setIfInBounds j true) a' w' := by
    rintro a' w' ⟨Γ', β', hs', h1, h2, h3, h4⟩
    have h5 : ∀ x ∈ hs, (W.getD x.1 []).contains j = false → tookS P ω n ds ops x w' := fun x hx hc => ⟨Γ', h1, h3.all x hx hc⟩
    refine ⟨fun x hx hj => ?_, ?_⟩
    · obtain ⟨y, hy, rfl⟩ := List.mem_map.1 hx
      refine h5 y hy ?_
      simpa using hj
    · have h6 := h4 a' w' h1 h2 (fun x hx => by
        rw [h3.eq, List.mem_filter] at hx
        exact h5 x hx.1 (by simpa using hx.2))
      rw [h3.eq] at h6
      rw [List.filter_map]
      exact h6
  have hrun := h a w hh hb
  unfold Run wpListIn at hrun
  unfold wpOpIn
  simp only [ho]
  split
  · rename_i hw
    rw [if_pos hw] at hrun
    exact Oper.wpIn_mono (fun a' w' h' => key a' w' h') (noPanic hrun)
  · rename_i hw
    rw [if_neg hw] at hrun
    exact ⟨hrun.1, key _ _ hrun.2⟩
/-- An operation that comes next, and no other. -/
theorem any_run {fuel : Nat} {hs : List Took} {L : Array Bool} {j : Nat} {o : Oper} (hok : Region.ready .any ops L = [j]) (ho : ops[j]? = some o) (h : St ω n ds Γ β (Run P r ops (Exit.then (behind P ω n ds r ops Q W fuel hs L j) nopost) [o])) :
    AnyS P ω n ds r ops Q W (fuel + 1) hs L Γ β := by
  intro a w hh hb _
  refine ⟨fun h0 => (by rw [hok] at h0; cases h0), fun k hk => ?_⟩
  rw [hok] at hk
  obtain rfl : k = j := by simpa using hk
  exact run_behind ho h a w hh hb
/-- Two that may come next. -/
theorem any_run2 {fuel : Nat} {hs : List Took} {L : Array Bool} {i j : Nat} {oi oj : Oper} (hok : Region.ready .any ops L = [i, j]) (hi : ops[i]? = some oi) (hj : ops[j]? = some oj) (h : St ω n ds Γ β (Run P r ops (Exit.then (behind P ω n ds r ops Q W fuel hs L i) nopost) [oi]))
    (h' : St ω n ds Γ β (Run P r ops (Exit.then (behind P ω n ds r ops Q W fuel hs L j) nopost) [oj])) :
    AnyS P ω n ds r ops Q W (fuel + 1) hs L Γ β := by
  intro a w hh hb _
  refine ⟨fun h0 => (by rw [hok] at h0; cases h0), fun k hk => ?_⟩
  rw [hok] at hk
  rcases List.mem_cons.1 hk with rfl | hk
  · exact run_behind hi h a w hh hb
  · obtain rfl : k = j := by simpa using hk
    exact run_behind hj h' a w hh hb
theorem any_nil {hs : List Took} {L : Array Bool} (hok : Region.ready .any ops L = []) (h : St ω n ds Γ β (Q .normal)) : AnyS P ω n ds r ops Q W 0 hs L Γ β :=
  fun a w hh hb _ => ⟨hok, h a w hh hb⟩
/-- A region that draws its order. -/
theorem do_draw {id N : Nat} {ops : Array Oper} (W : List (List Nat)) (hm : P.follows .mixedOrders = true) (hN : ops.size = N) (h : AnyS P ω n ds r ops Q W N [] (Array.replicate N false) Γ β) : St ω n ds Γ β (Do P r (.region id ops true) Q) :=
  fun a w hh hb => by
    subst hN
    exact wpIn_region_any hm (wpAny_of_MI _ _ _ _ _ (h a w.drew hh hb (fun _ hx => by cases hx)))
end
end Go.Proofs.Ytgeldfgcicjidaa
