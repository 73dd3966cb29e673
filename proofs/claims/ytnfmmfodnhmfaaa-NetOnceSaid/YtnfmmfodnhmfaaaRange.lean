/-
  'for .. := range f': one law for the loop over a function; what the loop holds is said by a number of rounds and a world.
-/
import Derived.Test.YtnfmmfodnhmfaaaPlanIn
namespace Go.Proofs.Ytnfmmfodnhmfaaa
open Go.RowKit

section
variable {F : Fence} {n : Nat} {P : Program}

theorem wide_depth : ¬ (Fence.wide.depth.isSome = true) := by simp [Fence.wide]
theorem wide_fn : ∀ f, Fence.wide.fn f := fun _ => trivial
/-- How the body of a round may be left. -/
def rndPost (Fb : Nat → Prop) (I : World → Prop) (Ix : Code → World → Prop) (W2 : World) : Exit → Act → World → Prop
  | .normal, _, W' => Fr Fb W2 W' ∧ I W'
  | .ret, _, W' => Fr Fb W2 W' ∧ Ix .ret W'
  | .exit id, _, W' => Fr Fb W2 W' ∧ Ix (.exit id) W'
  | .goto t, _, W' => Fr Fb W2 W' ∧ Ix (.goto t) W'
  | .panic _, _, _ => False
  | .outgrown, _, _ => False

/-- What a call of yield with item i must do. -/
def Yielded (F : Fence) (m : Nat) (P : Program) (l : Nat) (Fb : Nat → Prop) (J : Nat → World → Prop) (Jx : World → Prop) (i : Nat) (vs : Array Value) (W : World) : Prop :=
  YieldAt F m P l vs W fun e W' => (e = .returned (.bool true) ∧ J (i + 1) W' ∧ Fr (fun b => Fb b ∨ b = l) W W') ∨ (e = .returned (.bool false) ∧ Jx W')

/-- An iterator's contract, in a world W: whatever the loop does that keeps to the blocks Fb. X i vs W': the values vs are item i in W'; S i: i items may have been all. -/
def Iterates (F : Fence) (m : Nat) (P : Program) (g : Nat) (lb : Array Value) (Fb : Nat → Prop) (X : Nat → Array Value → World → Prop) (S : Nat → Prop) (w : World) : Prop :=
  ∀ (l : Nat) (J : Nat → World → Prop) (Jx : World → Prop) (W : World), w.heap.size ≤ l → l < W.heap.size → Fr nowhere w W → (∀ i A B, J i A → Fr nowhere A B → J i B) → (∀ A B, Jx A → Fr nowhere A B → Jx B) →
    (∀ i vs W1, W.heap.size ≤ W1.heap.size → J i W1 → X i vs W1 → Yielded F (m - 1) P l Fb J Jx i vs W1) → J 0 W →
    CallsIn F m P g (#[.func (.yield l) #[] #[]] ++ lb) W fun e W' => (∃ v, e = .returned v) ∧ ((∃ i, S i ∧ J i W') ∨ Jx W')

theorem fr_putObj {W : World} {l : Nat} (o' : Obj) : Fr (fun b => b = l) W (W.putObj l o') :=
  ⟨rfl, rfl, rfl, by simp [World.putObj], fun k _ hn => World.putObj_heap_other hn⟩

/-- The loop's core: its record is laid at l; what is held says how the record stands. -/
theorem range_core (hF : ∀ f, F.fn f) {ps : Array Tmp} {assign body : Code} {a : Act} {w W1 : World} {l dfr : Nat} {gf : Nat} {lb : Array Value} {fn : Nat}
    {Fb : Nat → Prop} {X : Nat → Array Value → World → Prop} {S : Nat → Prop}
    (hit : Iterates F (n - 1) P gf lb Fb X S w) (hps : ∀ i vs W, X i vs W → vs.size = ps.size) (hlw : w.heap.size ≤ l) (hfr : Fr nowhere w W1) (hFb : ∀ b, Fb b → b < w.heap.size)
    (hL : W1.heap[l]? = some (.loop { state := .ready, pending := none, fn, tmps := a.tmps, params := ps, assign, body, defers := dfr }))
    (I : Nat → World → Prop) (Ix : Code → World → Prop) (hI : ∀ i A B, I i A → Fr (fun b => b = l) A B → I i B) (hIx : ∀ c A B, Ix c A → Fr (fun b => b = l) A B → Ix c B) (h0 : I 0 W1)
    (hbody : ∀ i vs W, W1.heap.size ≤ W.heap.size → (∃ r, W.heap[l]? = some (.loop r)) → I i W → X i vs W →
      assign.wpIn (F.inRound l) (n - 1 - 1) P (Exit.then (fun a1 Wa => Fr nowhere W Wa ∧ ∀ W2, Fr (fun b => b = l) Wa W2 → I i W2 → (∃ r, W2.heap[l]? = some (.loop r)) → body.wpIn (F.inRound l) (n - 1 - 1) P (rndPost Fb (I (i + 1)) Ix W2) a1 W2) (fun _ _ _ => False))
        { tmps := (ps.zip vs).foldl (fun t (p, v) => t.setIfInBounds p v) a.tmps, defers := [] } W) :
    CallsIn F (n - 1) P gf (#[.func (.yield l) #[] #[]] ++ lb) W1 fun e W' => (∃ v, e = .returned v) ∧ ∃ jump W4, (Instr.endLoop l).run P W' = .ok jump W4 ∧
      match (jump : Option Code) with
      | none => ∃ i, S i ∧ I i W4
      | some c => Ix c W4 := by
  obtain ⟨rec, hrec⟩ : ∃ rec : LoopState → Option Code → Loop, rec = fun st pe => { state := st, pending := pe, fn, tmps := a.tmps, params := ps, assign, body, defers := dfr } := ⟨_, rfl⟩
  have hL1 : W1.heap[l]? = some (.loop (rec .ready none)) := by rw [hrec]; exact hL
  have hl1 : l < W1.heap.size := (Array.getElem?_eq_some_iff.1 hL1).1
  refine (hit l (fun i W => I i W ∧ W.heap[l]? = some (.loop (rec .ready none))) (fun W => ∃ c, Ix c W ∧ W.heap[l]? = some (.loop (rec .done (some c)))) W1 hlw hl1 hfr ?_ ?_ ?_ ⟨h0, hL1⟩).mono ?_
  · rintro i A B ⟨h1, h2⟩ hf
    have hlt := (Array.getElem?_eq_some_iff.1 h2).1
    exact ⟨hI i A B h1 (hf.mono (fun _ _ e => e.elim)), (hf.block l hlt id).trans h2⟩
  · rintro A B ⟨c, h1, h2⟩ hf
    have hlt := (Array.getElem?_eq_some_iff.1 h2).1
    exact ⟨c, hIx c A B h1 (hf.mono (fun _ _ e => e.elim)), (hf.block l hlt id).trans h2⟩
  · rintro i vs W hsz ⟨hi, hl⟩ hx
    have hlt : l < W.heap.size := (Array.getElem?_eq_some_iff.1 hl).1
    have hy := run_yield (P := P) (args := vs) hl (by rw [hrec]; exact hps i vs W hx)
    rw [hrec] at hy
    refine ⟨fn, _, assign, body, hy, roundIn_of_wpIn (hF fn) (Code.wpIn_mono ?_ (hbody i vs W hsz ⟨_, hl⟩ hi hx))⟩
    rintro e a1 Wa hp
    cases e with
    | normal =>
      obtain ⟨hfa, hp⟩ := hp
      have hla : Wa.heap[l]? = some (.loop (rec .ready none)) := (hfa.block l hlt id).trans hl
      have hlta : l < Wa.heap.size := (Array.getElem?_eq_some_iff.1 hla).1
      refine ⟨_, run_beginRound hla (by rw [hrec]), ?_⟩
      have hbg : Fr (fun b => b = l) Wa (Wa.putObj l (.loop { rec .ready none with state := .busy })) := fr_putObj _
      have hl2 : (Wa.putObj l (.loop { rec .ready none with state := .busy })).heap[l]? = some (.loop { rec .ready none with state := .busy }) := World.putObj_heap_same hlta
      have hfr2 : Fr (fun b => b = l) W (Wa.putObj l (.loop { rec .ready none with state := .busy })) := Fr.trans (hfa.mono (fun _ _ e => e.elim)) hbg (fun _ _ e => e)
      have hb := hp _ hbg (hI i _ _ hi hfr2) ⟨_, hl2⟩
      refine Code.wpIn_mono ?_ hb
      have fin : ∀ (jump : Option Code) (W3 : World), Fr Fb (Wa.putObj l (.loop { rec .ready none with state := .busy })) W3 →
          (Instr.endRound l jump).run P W3 = .ok (.bool jump.isNone) (W3.putObj l (.loop (rec (if jump.isNone then .ready else .done) jump))) ∧
          (W3.putObj l (.loop (rec (if jump.isNone then .ready else .done) jump))).heap[l]? = some (.loop (rec (if jump.isNone then .ready else .done) jump)) ∧
          Fr (fun b => Fb b ∨ b = l) W (W3.putObj l (.loop (rec (if jump.isNone then .ready else .done) jump))) ∧ Fr (fun b => b = l) W3 (W3.putObj l (.loop (rec (if jump.isNone then .ready else .done) jump))) := fun jump W3 hk3 => by
        have hl3 : W3.heap[l]? = some (.loop { rec .ready none with state := .busy }) := (hk3.block l (by simp [World.putObj]; omega) (fun e => by have := hFb l e; omega)).trans hl2
        have hA : Fr (fun b => Fb b ∨ b = l) W W3 := Fr.trans (hfr2.mono (F' := fun b => Fb b ∨ b = l) (fun _ _ e => .inr e)) hk3 (fun _ _ e => .inl e)
        have hlt3 := (Array.getElem?_eq_some_iff.1 hl3).1
        have := run_endRound (P := P) jump hl3
        rw [hrec] at this ⊢
        exact ⟨this, World.putObj_heap_same hlt3, Fr.trans hA (fr_putObj _) (fun _ _ e => .inr e), fr_putObj _⟩
      rintro e a3 W3 hp3
      cases e with
      | normal =>
        obtain ⟨hk3, hi3⟩ := hp3
        obtain ⟨hr, hl4, hf4, hf5⟩ := fin none W3 hk3
        exact ⟨_, _, hr, .inl ⟨rfl, ⟨hI _ _ _ hi3 hf5, hl4⟩, hf4⟩⟩
      | ret =>
        obtain ⟨hk3, hi3⟩ := hp3
        obtain ⟨hr, hl4, hf4, hf5⟩ := fin (some .ret) W3 hk3
        exact ⟨_, _, hr, .inr ⟨rfl, .ret, hIx _ _ _ hi3 hf5, hl4⟩⟩
      | exit id =>
        obtain ⟨hk3, hi3⟩ := hp3
        obtain ⟨hr, hl4, hf4, hf5⟩ := fin (some (.exit id)) W3 hk3
        exact ⟨_, _, hr, .inr ⟨rfl, .exit id, hIx _ _ _ hi3 hf5, hl4⟩⟩
      | goto t =>
        obtain ⟨hk3, hi3⟩ := hp3
        obtain ⟨hr, hl4, hf4, hf5⟩ := fin (some (.goto t)) W3 hk3
        exact ⟨_, _, hr, .inr ⟨rfl, .goto t, hIx _ _ _ hi3 hf5, hl4⟩⟩
      | panic ch => exact hp3.elim
      | outgrown => exact hp3.elim
    | ret => exact hp.elim
    | exit id => exact hp.elim
    | goto t => exact hp.elim
    | panic ch => exact hp.elim
    | outgrown => exact hp.elim
  · rintro e W2 ⟨hv, (⟨i, hS, hi, hl⟩ | ⟨c, hi, hl⟩)⟩
    · refine ⟨hv, none, _, by have := run_endLoop (P := P) hl (by rw [hrec]; simp); rw [hrec] at this; exact this, i, hS, hI _ _ _ hi (fr_putObj _)⟩
    · refine ⟨hv, some c, _, by have := run_endLoop (P := P) hl (by rw [hrec]; simp); rw [hrec] at this; exact this, hIx _ _ _ hi (fr_putObj _)⟩

/-- The loop in a function's own frame. -/
theorem wpIn_range (hro : F.round = none) (hd : F.depth = none) (hF : ∀ f, F.fn f) {g : Operand} {ps : Array Tmp} {assign body : Code} {Q : Exit → Act → World → Prop} {a : Act} {w : World}
    {gf : Nat} {lb : Array Value} (hg : a.eval g = .func (.func gf) #[] lb) (eg : ∀ args w, (callFunc gf args).run P w = .ok (.enter gf args) w)
    {Fb : Nat → Prop} {X : Nat → Array Value → World → Prop} {S : Nat → Prop}
    (hit : Iterates F (n - 1) P gf lb Fb X S w) (hps : ∀ i vs W, X i vs W → vs.size = ps.size) (hFb : ∀ b, Fb b → b < w.heap.size)
    (I : Nat → World → Prop) (Ix : Code → World → Prop) (hI : ∀ i A B, I i A → Fr (fun b => b = w.heap.size + 1) A B → I i B) (hIx : ∀ c A B, Ix c A → Fr (fun b => b = w.heap.size + 1) A B → Ix c B)
    (h0 : I 0 w)
    (hbody : ∀ i vs W, w.heap.size + 1 < W.heap.size → (∃ r, W.heap[w.heap.size + 1]? = some (.loop r)) → I i W → X i vs W →
      assign.wpIn (F.inRound (w.heap.size + 1)) (n - 1 - 1) P (Exit.then (fun a1 Wa => Fr nowhere W Wa ∧ ∀ W2, Fr (fun b => b = w.heap.size + 1) Wa W2 → I i W2 → (∃ r, W2.heap[w.heap.size + 1]? = some (.loop r)) →
          body.wpIn (F.inRound (w.heap.size + 1)) (n - 1 - 1) P (rndPost Fb (I (i + 1)) Ix W2) a1 W2) (fun _ _ _ => False))
        { tmps := (ps.zip vs).foldl (fun t (p, v) => t.setIfInBounds p v) a.tmps, defers := [] } W)
    (hdone : ∀ i W, S i → I i W → W.heap[w.heap.size]? = some (.deferred (some [])) → Q .normal { a with defers := { target := .collected w.heap.size, args := #[] } :: a.defers } W)
    (hstop : ∀ c W, Ix c W → W.heap[w.heap.size]? = some (.deferred (some [])) → c.wpIn F n P Q { a with defers := { target := .collected w.heap.size, args := #[] } :: a.defers } W) :
    (Code.rangeFunc g ps assign body).wpIn F n P Q a w := by
  refine wpIn_rangeFunc ?_
  intro fn _
  rw [hro]
  obtain ⟨W1, hW1⟩ : ∃ W1, (w.alloc (.deferred (some []))).alloc (.loop { state := .ready, pending := none, fn, tmps := a.tmps, params := ps, assign, body, defers := w.heap.size }) = W1 := ⟨_, rfl⟩
  have hL1 : W1.heap[w.heap.size + 1]? = some (.loop { state := .ready, pending := none, fn, tmps := a.tmps, params := ps, assign, body, defers := w.heap.size }) := by
    rw [← hW1]
    have := heap_alloc_new (w.alloc (.deferred (some []))) (.loop { state := .ready, pending := none, fn, tmps := a.tmps, params := ps, assign, body, defers := w.heap.size })
    rwa [World.size_alloc] at this
  have hK1 : W1.heap[w.heap.size]? = some (.deferred (some [])) := by
    rw [← hW1]; exact (hp_new _ _ _ (by simp)).trans (heap_alloc_new w _)
  have hfr : Fr nowhere w W1 := by rw [← hW1]; exact ((Fr.refl _ w).alloc _).alloc _
  have hz1 : W1.heap.size = w.heap.size + 2 := by rw [← hW1]; simp
  have keepK : ∀ A B : World, A.heap[w.heap.size]? = some (.deferred (some [])) → Fr (fun b => b = w.heap.size + 1) A B → B.heap[w.heap.size]? = some (.deferred (some [])) := fun A B h hf =>
    (hf.block _ (Array.getElem?_eq_some_iff.1 h).1 (by omega)).trans h
  refine ⟨w.heap.size + 1, [{ target := .collected w.heap.size, args := #[] }], W1, { target := .fn (.func gf) lb, args := #[.func (.yield (w.heap.size + 1)) #[] #[]] }, W1, gf,
    #[.func (.yield (w.heap.size + 1)) #[] #[]] ++ lb, W1, ?_, ?_, fun f _ => hF f, ?_, fun h => by simp [hd] at h, ?_⟩
  · rw [← hW1]; exact run_enterLoop_outer _ _ _ _ _
  · simp only [resolve, hg]
    simp [go_sem]
  · simp [invoke, go_sem, eg]
  · refine (range_core hF hit hps (l := w.heap.size + 1) (by omega) hfr hFb hL1 (fun i W => I i W ∧ W.heap[w.heap.size]? = some (.deferred (some [])))
      (fun c W => Ix c W ∧ W.heap[w.heap.size]? = some (.deferred (some []))) ?_ ?_ ?_ ?_).mono ?_
    · rintro i A B ⟨h1, h2⟩ hf
      exact ⟨hI i A B h1 hf, keepK A B h2 hf⟩
    · rintro c A B ⟨h1, h2⟩ hf
      exact ⟨hIx c A B h1 hf, keepK A B h2 hf⟩
    · exact ⟨hI 0 _ _ h0 (hfr.mono (fun _ _ e => e.elim)), hK1⟩
    · rintro i vs W hsz hrr ⟨h1, h2⟩ hx
      · refine Code.wpIn_mono ?_ (hbody i vs W (by omega) hrr h1 hx)
        rintro e a1 Wa hp
        cases e with
        | normal =>
          obtain ⟨hfa, hp⟩ := hp
          refine ⟨hfa, fun W2 hf2 hi2 hr => ?_⟩
          have hKa : Wa.heap[w.heap.size]? = some (.deferred (some [])) := (hfa.block _ (Array.getElem?_eq_some_iff.1 h2).1 id).trans h2
          have hK2 : W2.heap[w.heap.size]? = some (.deferred (some [])) := keepK _ _ hKa hf2
          have hnF : ¬ Fb w.heap.size := fun e => by have := hFb _ e; omega
          have keep3 : ∀ W3, Fr Fb W2 W3 → W3.heap[w.heap.size]? = some (.deferred (some [])) := fun W3 h => (h.block _ (Array.getElem?_eq_some_iff.1 hK2).1 hnF).trans hK2
          refine Code.wpIn_mono ?_ (hp W2 hf2 hi2.1 hr)
          rintro e3 a3 W3 hp3
          cases e3 with
          | normal => exact ⟨hp3.1, hp3.2, keep3 _ hp3.1⟩
          | ret => exact ⟨hp3.1, hp3.2, keep3 _ hp3.1⟩
          | exit id => exact ⟨hp3.1, hp3.2, keep3 _ hp3.1⟩
          | goto t => exact ⟨hp3.1, hp3.2, keep3 _ hp3.1⟩
          | panic ch => exact hp3.elim
          | outgrown => exact hp3.elim
        | ret => exact hp.elim
        | exit id => exact hp.elim
        | goto t => exact hp.elim
        | panic ch => exact hp.elim
        | outgrown => exact hp.elim
    · rintro e W2 ⟨⟨v, rfl⟩, jump, W4, hend, hj⟩
      refine ⟨jump, W4, hend, ?_⟩
      cases jump with
      | none =>
        obtain ⟨i, hS, hi, hK⟩ := hj
        exact hdone i W4 hS hi hK
      | some c => exact hstop c W4 hj.1 hj.2

/-- The function's end, where one range over a function stands in its body. -/
theorem leaves_one {fn : Func} {tmps : Array Value} {R : Ending → World → Prop} {D : Nat} {w : World} {v : Value} (hK : w.heap[D]? = some (.deferred (some [])))
    (hres : (results fn tmps).run P (w.putObj D (.deferred none)) = .ok v (w.putObj D (.deferred none))) (hR : R (.returned v) (w.putObj D (.deferred none))) :
    LeavesInM F n P fn tmps R [{ target := .collected D, args := #[] }] .returning w := by
  refine ⟨by simp, .inl ⟨_, _, rfl, run_takeDeferred hK, ?_⟩⟩
  exact ⟨_, hres, hR⟩

/-- The loop in a round of another one. -/
theorem wpIn_range_inner {l₀ : Nat} {r₀ : Loop} (hro : F.round = some l₀) (hd : F.depth = none) (hF : ∀ f, F.fn f) {g : Operand} {ps : Array Tmp} {assign body : Code} {Q : Exit → Act → World → Prop} {a : Act} {w : World}
    (hr0 : w.heap[l₀]? = some (.loop r₀))
    {gf : Nat} {lb : Array Value} (hg : a.eval g = .func (.func gf) #[] lb) (eg : ∀ args w, (callFunc gf args).run P w = .ok (.enter gf args) w)
    {Fb : Nat → Prop} {X : Nat → Array Value → World → Prop} {S : Nat → Prop}
    (hit : Iterates F (n - 1) P gf lb Fb X S w) (hps : ∀ i vs W, X i vs W → vs.size = ps.size) (hFb : ∀ b, Fb b → b < w.heap.size)
    (I : Nat → World → Prop) (Ix : Code → World → Prop) (hI : ∀ i A B, I i A → Fr (fun b => b = w.heap.size) A B → I i B) (hIx : ∀ c A B, Ix c A → Fr (fun b => b = w.heap.size) A B → Ix c B)
    (h0 : I 0 w)
    (hbody : ∀ i vs W, w.heap.size < W.heap.size → (∃ r, W.heap[w.heap.size]? = some (.loop r)) → I i W → X i vs W →
      assign.wpIn (F.inRound w.heap.size) (n - 1 - 1) P (Exit.then (fun a1 Wa => Fr nowhere W Wa ∧ ∀ W2, Fr (fun b => b = w.heap.size) Wa W2 → I i W2 → (∃ r, W2.heap[w.heap.size]? = some (.loop r)) →
          body.wpIn (F.inRound w.heap.size) (n - 1 - 1) P (rndPost Fb (I (i + 1)) Ix W2) a1 W2) (fun _ _ _ => False))
        { tmps := (ps.zip vs).foldl (fun t (p, v) => t.setIfInBounds p v) a.tmps, defers := [] } W)
    (hdone : ∀ i W, S i → I i W → Q .normal a W)
    (hstop : ∀ c W, Ix c W → c.wpIn F n P Q a W) :
    (Code.rangeFunc g ps assign body).wpIn F n P Q a w := by
  refine wpIn_rangeFunc ?_
  intro fn _
  rw [hro]
  obtain ⟨W1, hW1⟩ : ∃ W1, w.alloc (.loop { state := .ready, pending := none, fn, tmps := a.tmps, params := ps, assign, body, defers := r₀.defers }) = W1 := ⟨_, rfl⟩
  have hL1 : W1.heap[w.heap.size]? = some (.loop { state := .ready, pending := none, fn, tmps := a.tmps, params := ps, assign, body, defers := r₀.defers }) := by
    rw [← hW1]
    exact heap_alloc_new w _
  have hfr : Fr nowhere w W1 := by rw [← hW1]; exact (Fr.refl _ w).alloc _
  refine ⟨w.heap.size, [], W1, { target := .fn (.func gf) lb, args := #[.func (.yield w.heap.size) #[] #[]] }, W1, gf,
    #[.func (.yield w.heap.size) #[] #[]] ++ lb, W1, ?_, ?_, fun f _ => hF f, ?_, fun h => by simp [hd] at h, ?_⟩
  · rw [← hW1]; exact run_enterLoop_inner hr0 _ _ _ _ _
  · simp only [resolve, hg]
    simp [go_sem]
  · simp [invoke, go_sem, eg]
  · refine (range_core hF hit hps (l := w.heap.size) (Nat.le_refl _) hfr hFb hL1 I Ix hI hIx (hI 0 _ _ h0 (hfr.mono (fun _ _ e => e.elim))) (fun i vs W hsz hr h1 hx => hbody i vs W (by rw [← hW1] at hsz; simp at hsz; omega) hr h1 hx)).mono ?_
    rintro e W2 ⟨⟨v, rfl⟩, jump, W4, hend, hj⟩
    refine ⟨jump, W4, hend, ?_⟩
    cases jump with
    | none =>
      obtain ⟨i, hS, hi⟩ := hj
      exact hdone i W4 hS hi
    | some c => exact hstop c W4 hj
end
end Go.Proofs.Ytnfmmfodnhmfaaa
