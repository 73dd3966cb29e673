/-
  'for .. := range f': one law for the loop over a function; what the loop holds is said by a number of rounds and a world.
-/
import Derived.Test.YtgeldfgcicjidaaPlanIn
namespace Go.Proofs.Ytgeldfgcicjidaa
open Go.RowKit

section
variable {F : Fence} {n : Nat} {P : Program}

theorem wide_depth : ¬ (Fence.wide.depth.isSome = true) := by simp [Fence.wide]
theorem wide_fn : ∀ f, Fence.wide.fn f := fun _ => trivial
/-- What came of a round may be turned by later rounds; nothing else is added. -/
def Grows (K K' : Nat → Prop) (w : World) : Prop := ∀ b, K' b → K b ∨ w.heap.size ≤ b
/-- The blocks that an iterator's own steps may turn: of what came from B on, and of its own ones (O), what the rounds do not claim. -/
def Kin (O : Nat → Prop) (B : Nat) (K : Nat → Prop) : Nat → Prop := fun b => (B ≤ b ∨ O b) ∧ ¬ K b
theorem Grows.refl (K : Nat → Prop) (w : World) : Grows K K w := fun _ => .inl
theorem Grows.trans {K K' K'' : Nat → Prop} {w w' : World} (h : Grows K K' w) (h' : Grows K' K'' w') (hs : w.heap.size ≤ w'.heap.size) : Grows K K'' w := fun b hb => by
  rcases h' b hb with h1 | h1
  · exact h b h1
  · exact .inr (Nat.le_trans hs h1)
theorem Grows.fr {F K : Nat → Prop} {l : Nat} {w A C : World} (h : Fr (fun b => F b ∨ b = l) w A) (hg : Grows F K w) (h' : Fr (fun b => K b ∨ b = l) A C) : Fr (fun b => F b ∨ b = l) w C :=
  Fr.trans h h' (fun b hb e => by
    rcases e with e | e
    · rcases hg b e with e | e
      · exact .inl e
      · omega
    · exact .inr e)
section
variable {O : Nat → Prop}
theorem Fr.kin {B : Nat} {K : Nat → Prop} {A C : World} (h : Fr nowhere A C) : Fr (Kin O B K) A C := h.mono (fun _ _ e => e.elim)
theorem Fr.kinLe {O' : Nat → Prop} {B B' : Nat} {K K' : Nat → Prop} {A C : World} (h : Fr (Kin O' B' K') A C) (hB : B ≤ B') (hK : ∀ b, K b → K' b) (hO : ∀ b, O' b → B ≤ b ∨ O b := by exact fun _ h => .inr h) : Fr (Kin O B K) A C :=
  h.mono (fun b _ e => ⟨e.1.elim (fun h => .inl (Nat.le_trans hB h)) (hO b), fun h => e.2 (hK b h)⟩)
theorem Blk.kin {B : Nat} {K : Nat → Prop} {A C : World} {g : Nat} {t : TypeId} {cs : Array Value} (h : Blk A g t cs) (hf : Fr (Kin O B K) A C) (hg : g < B ∨ K g) (hO : O g → K g := by exact False.elim) : Blk C g t cs := h.fr hf (by
  rintro ⟨h1, h2⟩
  rcases h1 with h1 | h1
  · rcases hg with h | h
    · omega
    · exact h2 h
  · exact h2 (hO h1))
theorem own_kin {B base : Nat} {K : Nat → Prop} {A C : World} {e : TypeId} {size : Nat} {v : Value} {n : Nat} {xs : List Value} (h : A.ownsRow base e size v n xs) (hf : Fr (Kin O B K) A C) (hg : ∀ g, v.ownBlock = some g → g < B ∨ K g)
    (hO : ∀ g, v.ownBlock = some g → O g → K g := by exact fun _ _ h => False.elim h) : C.ownsRow base e size v n xs :=
  own_same h fun g hg' _ hlt => by
    obtain ⟨cs, hb, _⟩ := own_blk h hg'
    exact (hb.kin hf (hg g hg') (hO g hg')).trans hb.symm
theorem Fr.thenKin {F K : Nat → Prop} {B : Nat} {w A C : World} (h : Fr F w A) (hf : Fr (Kin O B K) A C) (hB : w.heap.size ≤ B) (hO : ∀ b, O b → F b ∨ w.heap.size ≤ b := by exact fun _ h => False.elim h) : Fr F w C :=
  Fr.trans h hf (fun b hb e => by
    rcases e.1 with h1 | h1
    · omega
    · rcases hO b h1 with h2 | h2
      · exact h2
      · omega)
end

/-- How the body of a round may be left; K: the blocks that it may turn. -/
def rndPost (K : Nat → Prop) (I : (Nat → Prop) → World → Prop) (Ix : Code → (Nat → Prop) → World → Prop) (W2 : World) : Exit → Act → World → Prop
  | .normal, _, W' => ∃ K', I K' W' ∧ Grows K K' W2 ∧ Fr K W2 W'
  | .ret, _, W' => ∃ K', Ix .ret K' W' ∧ Grows K K' W2 ∧ Fr K W2 W'
  | .exit id, _, W' => ∃ K', Ix (.exit id) K' W' ∧ Grows K K' W2 ∧ Fr K W2 W'
  | .goto t, _, W' => ∃ K', Ix (.goto t) K' W' ∧ Grows K K' W2 ∧ Fr K W2 W'
  | .panic _, _, _ => False
  | .outgrown, _, _ => False

/-- What a call of yield with item i must do. -/
def Yielded (F : Fence) (m : Nat) (P : Program) (l : Nat) (J : Nat → (Nat → Prop) → World → Prop) (Jx : (Nat → Prop) → World → Prop) (i : Nat) (K : Nat → Prop) (vs : Array Value) (W : World) : Prop :=
  YieldAt F m P l vs W fun e W' => (e = .returned (.bool true) ∧ ∃ K', J (i + 1) K' W' ∧ Grows K K' W ∧ Fr (fun b => K b ∨ b = l) W W') ∨ (e = .returned (.bool false) ∧ ∃ K', Jx K' W' ∧ Grows K K' W ∧ Fr (fun b => K b ∨ b = l) W W')

/-- An iterator's contract, in a world w: whatever the loop does whose rounds turn, of what lay there, the blocks Fb alone. X i vs W': the values vs are item i in W'; S i W': i items may have been all, and W' is then. Kn B i K: the blocks that the iterator's own steps may turn after i items. -/
def IteratesO (F : Fence) (m : Nat) (P : Program) (g : Nat) (lb : Array Value) (Fb : Nat → Prop) (Kn : Nat → Nat → (Nat → Prop) → Nat → Prop) (X : Nat → Array Value → World → Prop) (S : Nat → World → Prop) (w : World) : Prop :=
  ∀ (l : Nat) (J : Nat → (Nat → Prop) → World → Prop) (Jx : (Nat → Prop) → World → Prop) (K0 : Nat → Prop) (W : World), w.heap.size ≤ l → l < W.heap.size → Fr nowhere w W →
    (∀ i K A, J i K A → (∀ b, K b → b < A.heap.size) ∧ ¬ K l) → (∀ i K A C, J i K A → Fr (Kn W.heap.size i K) A C → J i K C) → (∀ K A C, Jx K A → Fr (Kn W.heap.size 0 K) A C → Jx K C) →
    (∀ i K vs W1, W.heap.size ≤ W1.heap.size → J i K W1 → X i vs W1 → Yielded F (m - 1) P l J Jx i K vs W1) → J 0 K0 W → (∀ b, K0 b → Fb b ∧ b < w.heap.size) →
    CallsIn F m P g (#[.func (.yield l) #[] #[]] ++ lb) W fun e W' => (∃ v, e = .returned v) ∧ ((∃ i K, S i W' ∧ J i K W') ∨ ∃ K, Jx K W')
/-- An iterator that turns nothing that lay there. -/
def Iterates (F : Fence) (m : Nat) (P : Program) (g : Nat) (lb : Array Value) (Fb : Nat → Prop) (X : Nat → Array Value → World → Prop) (S : Nat → Prop) (w : World) : Prop := IteratesO F m P g lb Fb (fun B _ K => Kin nowhere B K) X (fun i _ => S i) w

theorem fr_putObj {W : World} {l : Nat} (o' : Obj) : Fr (fun b => b = l) W (W.putObj l o') :=
  ⟨rfl, rfl, rfl, by simp [World.putObj], fun k _ hn => World.putObj_heap_other hn⟩

/-- The loop's core: its record is laid at l; what is held says how the record stands. -/
theorem range_core (hF : ∀ f, F.fn f) {ps : Array Tmp} {assign body : Code} {a : Act} {w W1 : World} {l dfr : Nat} {gf : Nat} {lb : Array Value} {fn : Nat}
    {Fb : Nat → Prop} {Kn : Nat → Nat → (Nat → Prop) → Nat → Prop} {X : Nat → Array Value → World → Prop} {S : Nat → World → Prop} {K0 : Nat → Prop}
    (hit : IteratesO F (n - 1) P gf lb Fb Kn X S w) (hKn : ∀ B i K b, Kn B i K b → B ≤ b ∨ b < w.heap.size) (hS : ∀ i A C, S i A → Fr (fun b => w.heap.size ≤ b) A C → S i C) (hps : ∀ i vs W, X i vs W → vs.size = ps.size) (hlw : w.heap.size ≤ l) (hfr : Fr nowhere w W1) (hK0 : ∀ b, K0 b → Fb b ∧ b < w.heap.size)
    (hL : W1.heap[l]? = some (.loop { state := .ready, pending := none, fn, tmps := a.tmps, params := ps, assign, body, defers := dfr }))
    (I : Nat → (Nat → Prop) → World → Prop) (Ix : Code → (Nat → Prop) → World → Prop) (hlt : ∀ i K A, I i K A → (∀ b, K b → b < A.heap.size))
    (hI : ∀ i K A C, I i K A → ¬ K l → Fr (fun b => b = l ∨ Kn W1.heap.size i K b) A C → I i K C) (hIx : ∀ c K A C, Ix c K A → ¬ K l → Fr (fun b => b = l ∨ Kn W1.heap.size 0 K b) A C → Ix c K C) (h0 : I 0 K0 W1)
    (hbody : ∀ i K vs W, W1.heap.size ≤ W.heap.size → (∃ r, W.heap[l]? = some (.loop r)) → I i K W → ¬ K l → X i vs W →
      assign.wpIn (F.inRound l) (n - 1 - 1) P (Exit.then (fun a1 Wa => Fr nowhere W Wa ∧ ∀ W2, Fr (fun b => b = l) Wa W2 → I i K W2 → (∃ r, W2.heap[l]? = some (.loop r)) → body.wpIn (F.inRound l) (n - 1 - 1) P (rndPost K (I (i + 1)) Ix W2) a1 W2) (fun _ _ _ => False))
        { tmps := (ps.zip vs).foldl (fun t (p, v) => t.setIfInBounds p v) a.tmps, defers := [] } W) :
    CallsIn F (n - 1) P gf (#[.func (.yield l) #[] #[]] ++ lb) W1 fun e W' => (∃ v, e = .returned v) ∧ ∃ jump W4, (Instr.endLoop l).run P W' = .ok jump W4 ∧
      match (jump : Option Code) with
      | none => ∃ i K, S i W4 ∧ I i K W4
      | some c => ∃ K, Ix c K W4 := by
  obtain ⟨rec, hrec⟩ : ∃ rec : LoopState → Option Code → Loop, rec = fun st pe => { state := st, pending := pe, fn, tmps := a.tmps, params := ps, assign, body, defers := dfr } := ⟨_, rfl⟩
  have hL1 : W1.heap[l]? = some (.loop (rec .ready none)) := by rw [hrec]; exact hL
  have hl1 : l < W1.heap.size := (Array.getElem?_eq_some_iff.1 hL1).1
  refine (hit l (fun i K W => I i K W ∧ ¬ K l ∧ W.heap[l]? = some (.loop (rec .ready none))) (fun K W => ∃ c, Ix c K W ∧ ¬ K l ∧ W.heap[l]? = some (.loop (rec .done (some c)))) K0 W1 hlw hl1 hfr ?_ ?_ ?_ ?_ ⟨h0, fun h => by have := (hK0 l h).2; omega, hL1⟩ hK0).mono ?_
  · rintro i K A ⟨h1, h2, _⟩
    exact ⟨hlt i K A h1, h2⟩
  · rintro i K A B ⟨h1, h2, h3⟩ hf
    have hlt := (Array.getElem?_eq_some_iff.1 h3).1
    exact ⟨hI i K A B h1 h2 (hf.mono (fun _ _ e => .inr e)), h2, (hf.block l hlt (fun e => by have := hKn _ _ _ _ e; omega)).trans h3⟩
  · rintro K A B ⟨c, h1, h2, h3⟩ hf
    have hlt := (Array.getElem?_eq_some_iff.1 h3).1
    exact ⟨c, hIx c K A B h1 h2 (hf.mono (fun _ _ e => .inr e)), h2, (hf.block l hlt (fun e => by have := hKn _ _ _ _ e; omega)).trans h3⟩
  · rintro i K vs W hsz ⟨hi, hnl, hl⟩ hx
    have hltl : l < W.heap.size := (Array.getElem?_eq_some_iff.1 hl).1
    have hy := run_yield (P := P) (args := vs) hl (by rw [hrec]; exact hps i vs W hx)
    rw [hrec] at hy
    refine ⟨fn, _, assign, body, hy, roundIn_of_wpIn (hF fn) (Code.wpIn_mono ?_ (hbody i K vs W hsz ⟨_, hl⟩ hi hnl hx))⟩
    rintro e a1 Wa hp
    cases e with
    | normal =>
      obtain ⟨hfa, hp⟩ := hp
      have hla : Wa.heap[l]? = some (.loop (rec .ready none)) := (hfa.block l hltl id).trans hl
      have hlta : l < Wa.heap.size := (Array.getElem?_eq_some_iff.1 hla).1
      refine ⟨_, run_beginRound hla (by rw [hrec]), ?_⟩
      have hbg : Fr (fun b => b = l) Wa (Wa.putObj l (.loop { rec .ready none with state := .busy })) := fr_putObj _
      have hl2 : (Wa.putObj l (.loop { rec .ready none with state := .busy })).heap[l]? = some (.loop { rec .ready none with state := .busy }) := World.putObj_heap_same hlta
      have hfr2 : Fr (fun b => b = l) W (Wa.putObj l (.loop { rec .ready none with state := .busy })) := Fr.trans (hfa.mono (fun _ _ e => e.elim)) hbg (fun _ _ e => e)
      have hb := hp _ hbg (hI i K _ _ hi hnl (hfr2.mono (fun b _ e => .inl e))) ⟨_, hl2⟩
      refine Code.wpIn_mono ?_ hb
      have fin : ∀ (jump : Option Code) (K' : Nat → Prop) (W3 : World), Grows K K' (Wa.putObj l (.loop { rec .ready none with state := .busy })) → Fr K (Wa.putObj l (.loop { rec .ready none with state := .busy })) W3 →
          (Instr.endRound l jump).run P W3 = .ok (.bool jump.isNone) (W3.putObj l (.loop (rec (if jump.isNone then .ready else .done) jump))) ∧
          (¬ K' l ∧ (W3.putObj l (.loop (rec (if jump.isNone then .ready else .done) jump))).heap[l]? = some (.loop (rec (if jump.isNone then .ready else .done) jump))) ∧
          (Grows K K' W ∧ Fr (fun b => K b ∨ b = l) W (W3.putObj l (.loop (rec (if jump.isNone then .ready else .done) jump)))) ∧ Fr (fun b => b = l) W3 (W3.putObj l (.loop (rec (if jump.isNone then .ready else .done) jump))) := fun jump K' W3 hg hk3 => by
        have hl3 : W3.heap[l]? = some (.loop { rec .ready none with state := .busy }) := (hk3.block l (by simp [World.putObj]; omega) hnl).trans hl2
        have hA : Fr (fun b => K b ∨ b = l) W W3 := Fr.trans (hfr2.mono (F' := fun b => K b ∨ b = l) (fun _ _ e => .inr e)) hk3 (fun _ _ e => .inl e)
        have hlt3 := (Array.getElem?_eq_some_iff.1 hl3).1
        have hz1 := hfa.size
        have hz2 : (Wa.putObj l (.loop { rec .ready none with state := .busy })).heap.size = Wa.heap.size := by simp [World.putObj]
        have hg' : Grows K K' W := fun b hb => (hg b hb).imp id (fun h => by rw [hz2] at h; omega)
        have hnl' : ¬ K' l := fun h => by
          rcases hg' l h with h | h
          · exact hnl h
          · omega
        have := run_endRound (P := P) jump hl3
        rw [hrec] at this ⊢
        exact ⟨this, ⟨hnl', World.putObj_heap_same hlt3⟩, ⟨hg', Fr.trans hA (fr_putObj _) (fun _ _ e => .inr e)⟩, fr_putObj _⟩
      rintro e a3 W3 hp3
      cases e with
      | normal =>
        obtain ⟨K', hi3, hg, hk3⟩ := hp3
        obtain ⟨hr, hl4, hf4, hf5⟩ := fin none K' W3 hg hk3
        exact ⟨_, _, hr, .inl ⟨rfl, K', ⟨hI _ _ _ _ hi3 hl4.1 (hf5.mono (fun _ _ e => .inl e)), hl4⟩, hf4⟩⟩
      | ret =>
        obtain ⟨K', hi3, hg, hk3⟩ := hp3
        obtain ⟨hr, hl4, hf4, hf5⟩ := fin (some .ret) K' W3 hg hk3
        exact ⟨_, _, hr, .inr ⟨rfl, K', ⟨.ret, hIx _ _ _ _ hi3 hl4.1 (hf5.mono (fun _ _ e => .inl e)), hl4⟩, hf4⟩⟩
      | exit id =>
        obtain ⟨K', hi3, hg, hk3⟩ := hp3
        obtain ⟨hr, hl4, hf4, hf5⟩ := fin (some (.exit id)) K' W3 hg hk3
        exact ⟨_, _, hr, .inr ⟨rfl, K', ⟨.exit id, hIx _ _ _ _ hi3 hl4.1 (hf5.mono (fun _ _ e => .inl e)), hl4⟩, hf4⟩⟩
      | goto t =>
        obtain ⟨K', hi3, hg, hk3⟩ := hp3
        obtain ⟨hr, hl4, hf4, hf5⟩ := fin (some (.goto t)) K' W3 hg hk3
        exact ⟨_, _, hr, .inr ⟨rfl, K', ⟨.goto t, hIx _ _ _ _ hi3 hl4.1 (hf5.mono (fun _ _ e => .inl e)), hl4⟩, hf4⟩⟩
      | panic ch => exact hp3.elim
      | outgrown => exact hp3.elim
    | ret => exact hp.elim
    | exit id => exact hp.elim
    | goto t => exact hp.elim
    | panic ch => exact hp.elim
    | outgrown => exact hp.elim
  · rintro e W2 ⟨hv, (⟨i, K, hSi, hi, hnl, hl⟩ | ⟨K, c, hi, hnl, hl⟩)⟩
    · refine ⟨hv, none, _, by have := run_endLoop (P := P) hl (by rw [hrec]; simp); rw [hrec] at this; exact this, i, K, hS _ _ _ hSi ((fr_putObj _).mono (fun b _ e => by subst e; exact hlw)), hI _ _ _ _ hi hnl ((fr_putObj _).mono (fun _ _ e => .inl e))⟩
    · refine ⟨hv, some c, _, by have := run_endLoop (P := P) hl (by rw [hrec]; simp); rw [hrec] at this; exact this, K, hIx _ _ _ _ hi hnl ((fr_putObj _).mono (fun _ _ e => .inl e))⟩

/-- The loop in a function's own frame. -/
theorem wpIn_rangeO (hro : F.round = none) (hd : F.depth = none) (hF : ∀ f, F.fn f) {g : Operand} {ps : Array Tmp} {assign body : Code} {Q : Exit → Act → World → Prop} {a : Act} {w : World}
    {gf : Nat} {lb : Array Value} (hg : a.eval g = .func (.func gf) #[] lb) (eg : ∀ args w, (callFunc gf args).run P w = .ok (.enter gf args) w)
    {Fb : Nat → Prop} {Kn : Nat → Nat → (Nat → Prop) → Nat → Prop} {X : Nat → Array Value → World → Prop} {S : Nat → World → Prop} {K0 : Nat → Prop}
    (hit : IteratesO F (n - 1) P gf lb Fb Kn X S w) (hKn : ∀ B i K b, Kn B i K b → B ≤ b ∨ b < w.heap.size) (hS : ∀ i A C, S i A → Fr (fun b => w.heap.size ≤ b) A C → S i C) (hps : ∀ i vs W, X i vs W → vs.size = ps.size) (hK0 : ∀ b, K0 b → Fb b ∧ b < w.heap.size)
    (I : Nat → (Nat → Prop) → World → Prop) (Ix : Code → (Nat → Prop) → World → Prop) (hlt : ∀ i K A, I i K A → (∀ b, K b → b < A.heap.size))
    (hKm : ∀ B i K b, w.heap.size ≤ B → Kn B i K b → Kn w.heap.size i K b)
    (hI : ∀ i K A C, I i K A → ¬ K (w.heap.size + 1) → ¬ K w.heap.size → Fr (fun b => b = w.heap.size + 1 ∨ b = w.heap.size ∨ Kn w.heap.size i K b) A C → I i K C) (hIx : ∀ c K A C, Ix c K A → ¬ K (w.heap.size + 1) → Fr (fun b => b = w.heap.size + 1 ∨ Kn w.heap.size 0 K b) A C → Ix c K C)
    (h0 : I 0 K0 w)
    (hbody : ∀ i K vs W, w.heap.size + 1 < W.heap.size → (∃ r, W.heap[w.heap.size + 1]? = some (.loop r)) → W.heap[w.heap.size]? = some (.deferred (some [])) → I i K W → ¬ K (w.heap.size + 1) → ¬ K w.heap.size → X i vs W →
      assign.wpIn (F.inRound (w.heap.size + 1)) (n - 1 - 1) P (Exit.then (fun a1 Wa => Fr nowhere W Wa ∧ ∀ W2, Fr (fun b => b = w.heap.size + 1) Wa W2 → I i K W2 → (∃ r, W2.heap[w.heap.size + 1]? = some (.loop r)) →
          body.wpIn (F.inRound (w.heap.size + 1)) (n - 1 - 1) P (rndPost K (I (i + 1)) Ix W2) a1 W2) (fun _ _ _ => False))
        { tmps := (ps.zip vs).foldl (fun t (p, v) => t.setIfInBounds p v) a.tmps, defers := [] } W)
    (hdone : ∀ i K W, S i W → I i K W → W.heap[w.heap.size]? = some (.deferred (some [])) → Q .normal { a with defers := { target := .collected w.heap.size, args := #[] } :: a.defers } W)
    (hstop : ∀ c K W, Ix c K W → W.heap[w.heap.size]? = some (.deferred (some [])) → c.wpIn F n P Q { a with defers := { target := .collected w.heap.size, args := #[] } :: a.defers } W) :
    (Code.rangeFunc g ps assign body).wpIn F n P Q a w := by
  refine wpIn_rangeFunc ?_
  intro fn _
  rw [hro]
  obtain ⟨W1, hW1⟩ : ∃ W1, (w.alloc (.deferred (some []))).alloc (.loop { state := .ready, pending := none, fn, tmps := a.tmps, params := ps, assign, body, defers := w.heap.size }) = W1 := ⟨_, rfl⟩
  have hL1 : W1.heap[w.heap.size + 1]? = some (.loop { state := .ready, pending := none, fn, tmps := a.tmps, params := ps, assign, body, defers := w.heap.size }) := by
    rw [← hW1]
    have := heap_alloc_new (w.alloc (.deferred (some []))) (.loop { state := .ready, pending := none, fn, tmps := a.tmps, params := ps, assign, body, defers := w.heap.size })
    rwa [World.size_alloc] at this
  have hK1 : W1.heap[w.heap.size]? = some (.deferred (some [])) := by
    rw [← hW1]; exact (hp_new _ _ _ (by simp)).trans (heap_alloc_new w _)
  have hfr : Fr nowhere w W1 := by rw [← hW1]; exact ((Fr.refl _ w).alloc _).alloc _
  have hz1 : W1.heap.size = w.heap.size + 2 := by rw [← hW1]; simp
  have keepK : ∀ (i : Nat) (K : Nat → Prop) (A B : World), A.heap[w.heap.size]? = some (.deferred (some [])) → Fr (fun b => b = w.heap.size + 1 ∨ Kn W1.heap.size i K b) A B → B.heap[w.heap.size]? = some (.deferred (some [])) := fun i K A B h hf =>
    (hf.block _ (Array.getElem?_eq_some_iff.1 h).1 (fun e => by
      rcases e with e | e
      · omega
      · have := hKn _ _ _ _ e; omega)).trans h
  refine ⟨w.heap.size + 1, [{ target := .collected w.heap.size, args := #[] }], W1, { target := .fn (.func gf) lb, args := #[.func (.yield (w.heap.size + 1)) #[] #[]] }, W1, gf,
    #[.func (.yield (w.heap.size + 1)) #[] #[]] ++ lb, W1, ?_, ?_, fun f _ => hF f, ?_, fun h => by simp [hd] at h, ?_⟩
  · rw [← hW1]; exact run_enterLoop_outer _ _ _ _ _
  · simp only [resolve, hg]
    simp [go_sem]
  · simp [invoke, go_sem, eg]
  · refine (range_core hF hit hKn hS hps (l := w.heap.size + 1) (by omega) hfr hK0 hL1 (fun i K W => I i K W ∧ ¬ K w.heap.size ∧ W.heap[w.heap.size]? = some (.deferred (some [])))
      (fun c K W => Ix c K W ∧ W.heap[w.heap.size]? = some (.deferred (some []))) ?_ ?_ ?_ ?_ ?_).mono ?_
    · rintro i K A ⟨h1, _, _⟩
      exact hlt i K A h1
    · rintro i K A B ⟨h1, h2, h3⟩ hn hf
      exact ⟨hI i K A B h1 hn h2 (hf.mono (fun b _ e => e.imp id (fun e => .inr (hKm _ _ _ _ (by omega) e)))), h2, keepK i K A B h3 hf⟩
    · rintro c K A B ⟨h1, h2⟩ hn hf
      exact ⟨hIx c K A B h1 hn (hf.mono (fun b _ e => e.imp id (hKm _ _ _ _ (by omega)))), keepK 0 K A B h2 hf⟩
    · exact ⟨hI 0 _ _ _ h0 (fun h => by have := (hK0 _ h).2; omega) (fun h => by have := (hK0 _ h).2; omega) (hfr.mono (fun _ _ e => e.elim)), fun h => by have := (hK0 _ h).2; omega, hK1⟩
    · rintro i K vs W hsz hrr ⟨h1, hnK, h2⟩ hnl hx
      · refine Code.wpIn_mono ?_ (hbody i K vs W (by omega) hrr h2 h1 hnl hnK hx)
        rintro e a1 Wa hp
        cases e with
        | normal =>
          obtain ⟨hfa, hp⟩ := hp
          refine ⟨hfa, fun W2 hf2 hi2 hr => ?_⟩
          have hKa : Wa.heap[w.heap.size]? = some (.deferred (some [])) := (hfa.block _ (Array.getElem?_eq_some_iff.1 h2).1 id).trans h2
          have hK2 : W2.heap[w.heap.size]? = some (.deferred (some [])) := (hf2.block _ (Array.getElem?_eq_some_iff.1 hKa).1 (by omega)).trans hKa
          have keep3 : ∀ W3, Fr K W2 W3 → W3.heap[w.heap.size]? = some (.deferred (some [])) := fun W3 h => (h.block _ (Array.getElem?_eq_some_iff.1 hK2).1 hnK).trans hK2
          have keepN : ∀ K', Grows K K' W2 → ¬ K' w.heap.size := fun K' hg h => by
            rcases hg _ h with h | h
            · exact hnK h
            · have := (Array.getElem?_eq_some_iff.1 hK2).1; omega
          refine Code.wpIn_mono ?_ (hp W2 hf2 hi2.1 hr)
          rintro e3 a3 W3 hp3
          cases e3 with
          | normal => obtain ⟨K', q1, q2, q3⟩ := hp3; exact ⟨K', ⟨q1, keepN K' q2, keep3 _ q3⟩, q2, q3⟩
          | ret => obtain ⟨K', q1, q2, q3⟩ := hp3; exact ⟨K', ⟨q1, keep3 _ q3⟩, q2, q3⟩
          | exit id => obtain ⟨K', q1, q2, q3⟩ := hp3; exact ⟨K', ⟨q1, keep3 _ q3⟩, q2, q3⟩
          | goto t => obtain ⟨K', q1, q2, q3⟩ := hp3; exact ⟨K', ⟨q1, keep3 _ q3⟩, q2, q3⟩
          | panic ch => exact hp3.elim
          | outgrown => exact hp3.elim
        | ret => exact hp.elim
        | exit id => exact hp.elim
        | goto t => exact hp.elim
        | panic ch => exact hp.elim
        | outgrown => exact hp.elim
    · rintro e W2 ⟨⟨v, rfl⟩, jump, W4, hend, hj⟩
      refine ⟨jump, W4, hend, ?_⟩
      cases jump with
      | none =>
        obtain ⟨i, K, hS, hi, _, hK⟩ := hj
        exact hdone i K W4 hS hi hK
      | some c => obtain ⟨K, h1, h2⟩ := hj; exact hstop c K W4 h1 h2

/-- Marks of loops over functions that have run through: each names a block of its own, from B on, none of them claimed by a loop's rounds. -/
def Marks (B : Nat) (K : Nat → Prop) (W : World) : List Deferred → Prop
  | [] => True
  | d :: ds => ∃ D, d = { target := .collected D, args := #[] } ∧ (B ≤ D ∧ ¬ K D) ∧ W.heap[D]? = some (.deferred (some [])) ∧ (∀ d' ∈ ds, d'.target ≠ .collected D) ∧ Marks B K W ds
/-- A block that is no row of cells holds no bytes. -/
theorem sl_off {W : World} {G : Nat → Prop} {size n : Nat} {v : Value} {xs : List Value} (h : Sl W G size v n xs) (hs : 0 < size) {D : Nat} {o : Obj} (hD : W.heap[D]? = some o) (ho : ∀ c t f, o ≠ .cells c t f) : Sl W (fun b => G b ∧ b ≠ D) size v n xs := by
  obtain ⟨A, c, rfl, h1, h2, h3, hA⟩ := h
  refine ⟨A, c, rfl, h1, h2, h3, fun hn => ?_⟩
  obtain ⟨g, off, rfl, hg, hG, hcell⟩ := hA hn
  refine ⟨g, off, rfl, hg, ⟨hG, ?_⟩, hcell⟩
  rintro rfl
  have hx : 0 < xs.length := by rw [h3]; exact Nat.mul_pos hn hs
  have := hcell 0 (xs[0]'hx) (List.getElem?_eq_getElem hx)
  cases o with
  | cells c t f => exact ho c t f rfl
  | _ => simp [World.cell?, hD] at this
theorem Marks.fr {B : Nat} {K F : Nat → Prop} {W W' : World} : ∀ {ds : List Deferred}, Marks B K W ds → Fr F W W' → (∀ b, F b → b < B ∨ K b ∨ W.heap.size ≤ b) → Marks B K W' ds
  | [], _, _, _ => trivial
  | _ :: _, ⟨D, h1, h2, h3, h4, h5⟩, hf, hF => ⟨D, h1, h2, (hf.block D (Array.getElem?_eq_some_iff.1 h3).1 (fun e => by
      have := (Array.getElem?_eq_some_iff.1 h3).1
      rcases hF D e with h | h | h
      · omega
      · exact h2.2 h
      · omega)).trans h3, h4, h5.fr hf hF⟩
theorem Marks.put {B D : Nat} {K : Nat → Prop} {W : World} {o : Obj} : ∀ {ds : List Deferred}, Marks B K W ds → (∀ d' ∈ ds, d'.target ≠ .collected D) → Marks B K (W.putObj D o) ds
  | [], _, _ => trivial
  | d0 :: _, ⟨D', h1, h2, h3, h4, h5⟩, h => ⟨D', h1, h2, (World.putObj_heap_other (fun e => h d0 (List.mem_cons_self ..) (by rw [h1, e]))).trans h3, h4, h5.put fun d hd => h d (List.mem_cons_of_mem _ hd)⟩
theorem Marks.lt {B : Nat} {K : Nat → Prop} {W : World} : ∀ {ds : List Deferred}, Marks B K W ds → ∀ d ∈ ds, ∃ D, d.target = .collected D ∧ D < W.heap.size
  | [], _, _, h => by cases h
  | _ :: _, ⟨D, h1, _, h3, _, h5⟩, d, h => by
    rcases List.mem_cons.1 h with rfl | h
    · exact ⟨D, by rw [h1], (Array.getElem?_eq_some_iff.1 h3).1⟩
    · exact h5.lt d h
theorem Marks.grow {B : Nat} {K K' : Nat → Prop} {W W1 : World} : ∀ {ds : List Deferred}, Marks B K W ds → Grows K K' W1 → W.heap.size ≤ W1.heap.size → Marks B K' W ds
  | [], _, _, _ => trivial
  | _ :: _, ⟨D, h1, h2, h3, h4, h5⟩, hg, hs => ⟨D, h1, ⟨h2.1, fun e => by
      have := (Array.getElem?_eq_some_iff.1 h3).1
      rcases hg D e with h | h
      · exact h2.2 h
      · omega⟩, h3, h4, h5.grow hg hs⟩
theorem Grows.not {K K' : Nat → Prop} {w : World} {b : Nat} (hg : Grows K K' w) (hn : ¬ K b) (hb : b < w.heap.size) : ¬ K' b := fun h => by
  rcases hg b h with h | h
  · exact hn h
  · omega
theorem Grows.or {K K' : Nat → Prop} {w : World} {l : Nat} (hg : Grows K K' w) : Grows (fun b => K b ∨ b = l) (fun b => K' b ∨ b = l) w := fun b h => by
  rcases h with h | h
  · exact (hg b h).imp .inl id
  · exact .inl (.inr h)
theorem Marks.next {B l : Nat} {K K' : Nat → Prop} {W W' : World} : ∀ {ds : List Deferred}, Marks B K W ds → Fr (fun b => K b ∨ b = l) W W' → Grows K K' W → l < B → Marks B K' W' ds
  | [], _, _, _, _ => trivial
  | _ :: _, ⟨D, h1, h2, h3, h4, h5⟩, hf, hg, hl => by
    have hlt := (Array.getElem?_eq_some_iff.1 h3).1
    refine ⟨D, h1, ⟨h2.1, hg.not h2.2 hlt⟩, (hf.block D hlt ?_).trans h3, h4, h5.next hf hg hl⟩
    rintro (h | h)
    · exact h2.2 h
    · have := h2.1; omega
theorem Blk.next {l g : Nat} {K : Nat → Prop} {W W' : World} {t : TypeId} {cs : Array Value} (h : Blk W g t cs) (hf : Fr (fun b => K b ∨ b = l) W W') (hn : ¬ K g) (hl : l < g) : Blk W' g t cs := h.fr hf (by
  rintro (h | h)
  · exact hn h
  · omega)
/-- The marks of w (of a moment ago) are there too: a step of a later iterator does not turn them. -/
theorem Marks.kin {O : Nat → Prop} {B B' : Nat} {K0 K K' : Nat → Prop} {w A C : World} (hO : ∀ b, O b → b < B := by exact fun _ h => False.elim h) : ∀ {ds : List Deferred}, Marks B K0 w ds → Marks B K A ds → Fr (Kin O B' K') A C → w.heap.size ≤ B' → Marks B K C ds
  | [], _, _, _, _ => trivial
  | _ :: _, ⟨D, h1, _, h3, _, h5⟩, ⟨D', k1, k2, k3, k4, k5⟩, hf, hB => by
    obtain rfl : D = D' := by rw [h1] at k1; cases k1; rfl
    have hlt := (Array.getElem?_eq_some_iff.1 h3).1
    exact ⟨D, h1, k2, (hf.block D (Array.getElem?_eq_some_iff.1 k3).1 (fun e => by rcases e.1 with h | h; omega; have := hO _ h; have := k2.1; omega)).trans k3, k4, Marks.kin hO h5 k5 hf hB⟩
theorem Marks.cons {B : Nat} {K K' : Nat → Prop} {W W' : World} {ds : List Deferred} (h : Marks B K W ds) (h' : Marks B K' W' ds) (hB : B ≤ W.heap.size) (hK : ¬ K' W.heap.size) (hD : W'.heap[W.heap.size]? = some (.deferred (some []))) :
    Marks B K' W' ({ target := .collected W.heap.size, args := #[] } :: ds) :=
  ⟨_, rfl, ⟨hB, hK⟩, hD, fun d hd e => by
    obtain ⟨D, h1, h2⟩ := h.lt d hd
    rw [e] at h1
    injection h1 with h1
    omega, h'⟩
/-- The function's end, where loops over functions have run through in its body. -/
theorem leaves_many {fn : Func} {tmps : Array Value} {R : Ending → World → Prop} {B : Nat} {K : Nat → Prop} {v : Value} : ∀ {ds : List Deferred} {w : World}, Marks B K w ds →
    (∀ w', Fr (Kin nowhere B K) w w' → (results fn tmps).run P w' = .ok v w') → (∀ w', Fr (Kin nowhere B K) w w' → R (.returned v) w') → LeavesInM F n P fn tmps R ds .returning w
  | [], w, _, hres, hR => ⟨_, hres w (Fr.refl _ _), hR w (Fr.refl _ _)⟩
  | _ :: ds, w, ⟨D, h1, h2, h3, h4, h5⟩, hres, hR => by
    have hlt := (Array.getElem?_eq_some_iff.1 h3).1
    have hf : Fr (Kin nowhere B K) w (w.putObj D (.deferred none)) := (fr_putObj (l := D) (.deferred none)).mono (fun b _ e => by subst e; exact ⟨.inl h2.1, h2.2⟩)
    have hk : ∀ w', Fr (Kin nowhere B K) (w.putObj D (.deferred none)) w' → Fr (Kin nowhere B K) w w' := fun w' hg => Fr.trans hf hg (fun b hb e => e)
    refine ⟨by simp, .inl ⟨D, _, by rw [h1], run_takeDeferred h3, ?_⟩⟩
    refine leaves_many (B := B) (h5.put h4) (fun w' hg => hres w' (hk w' hg)) (fun w' hg => hR w' (hk w' hg))

/-- The loop in a round of another one. -/
theorem wpIn_range_innerO {l₀ : Nat} {r₀ : Loop} (hro : F.round = some l₀) (hd : F.depth = none) (hF : ∀ f, F.fn f) {g : Operand} {ps : Array Tmp} {assign body : Code} {Q : Exit → Act → World → Prop} {a : Act} {w : World}
    (hr0 : w.heap[l₀]? = some (.loop r₀))
    {gf : Nat} {lb : Array Value} (hg : a.eval g = .func (.func gf) #[] lb) (eg : ∀ args w, (callFunc gf args).run P w = .ok (.enter gf args) w)
    {Fb : Nat → Prop} {Kn : Nat → Nat → (Nat → Prop) → Nat → Prop} {X : Nat → Array Value → World → Prop} {S : Nat → World → Prop} {K0 : Nat → Prop}
    (hit : IteratesO F (n - 1) P gf lb Fb Kn X S w) (hKn : ∀ B i K b, Kn B i K b → B ≤ b ∨ b < w.heap.size) (hS : ∀ i A C, S i A → Fr (fun b => w.heap.size ≤ b) A C → S i C) (hps : ∀ i vs W, X i vs W → vs.size = ps.size) (hK0 : ∀ b, K0 b → Fb b ∧ b < w.heap.size)
    (I : Nat → (Nat → Prop) → World → Prop) (Ix : Code → (Nat → Prop) → World → Prop) (hlt : ∀ i K A, I i K A → (∀ b, K b → b < A.heap.size))
    (hKm : ∀ B i K b, w.heap.size ≤ B → Kn B i K b → Kn w.heap.size i K b)
    (hI : ∀ i K A C, I i K A → ¬ K w.heap.size → Fr (fun b => b = w.heap.size ∨ Kn w.heap.size i K b) A C → I i K C) (hIx : ∀ c K A C, Ix c K A → ¬ K w.heap.size → Fr (fun b => b = w.heap.size ∨ Kn w.heap.size 0 K b) A C → Ix c K C)
    (h0 : I 0 K0 w)
    (hbody : ∀ i K vs W, w.heap.size < W.heap.size → (∃ r, W.heap[w.heap.size]? = some (.loop r)) → I i K W → ¬ K w.heap.size → X i vs W →
      assign.wpIn (F.inRound w.heap.size) (n - 1 - 1) P (Exit.then (fun a1 Wa => Fr nowhere W Wa ∧ ∀ W2, Fr (fun b => b = w.heap.size) Wa W2 → I i K W2 → (∃ r, W2.heap[w.heap.size]? = some (.loop r)) →
          body.wpIn (F.inRound w.heap.size) (n - 1 - 1) P (rndPost K (I (i + 1)) Ix W2) a1 W2) (fun _ _ _ => False))
        { tmps := (ps.zip vs).foldl (fun t (p, v) => t.setIfInBounds p v) a.tmps, defers := [] } W)
    (hdone : ∀ i K W, S i W → I i K W → Q .normal a W)
    (hstop : ∀ c K W, Ix c K W → c.wpIn F n P Q a W) :
    (Code.rangeFunc g ps assign body).wpIn F n P Q a w := by
  refine wpIn_rangeFunc ?_
  intro fn _
  rw [hro]
  obtain ⟨W1, hW1⟩ : ∃ W1, w.alloc (.loop { state := .ready, pending := none, fn, tmps := a.tmps, params := ps, assign, body, defers := r₀.defers }) = W1 := ⟨_, rfl⟩
  have hL1 : W1.heap[w.heap.size]? = some (.loop { state := .ready, pending := none, fn, tmps := a.tmps, params := ps, assign, body, defers := r₀.defers }) := by
    rw [← hW1]
    exact heap_alloc_new w _
  have hfr : Fr nowhere w W1 := by rw [← hW1]; exact (Fr.refl _ w).alloc _
  refine ⟨w.heap.size, [], W1, { target := .fn (.func gf) lb, args := #[.func (.yield w.heap.size) #[] #[]] }, W1, gf,
    #[.func (.yield w.heap.size) #[] #[]] ++ lb, W1, ?_, ?_, fun f _ => hF f, ?_, fun h => by simp [hd] at h, ?_⟩
  · rw [← hW1]; exact run_enterLoop_inner hr0 _ _ _ _ _
  · simp only [resolve, hg]
    simp [go_sem]
  · simp [invoke, go_sem, eg]
  · refine (range_core hF hit hKn hS hps (l := w.heap.size) (Nat.le_refl _) hfr hK0 hL1 I Ix hlt (fun i K A C h hn hf => hI i K A C h hn (hf.mono (fun b _ e => e.imp id (hKm _ _ _ _ (by rw [← hW1]; simp))))) (fun c K A C h hn hf => hIx c K A C h hn (hf.mono (fun b _ e => e.imp id (hKm _ _ _ _ (by rw [← hW1]; simp))))) (hI 0 _ _ _ h0 (fun h => by have := (hK0 _ h).2; omega) (hfr.mono (fun _ _ e => e.elim))) (fun i K vs W hsz hr h1 hn hx => hbody i K vs W (by rw [← hW1] at hsz; simp at hsz; omega) hr h1 hn hx)).mono ?_
    rintro e W2 ⟨⟨v, rfl⟩, jump, W4, hend, hj⟩
    refine ⟨jump, W4, hend, ?_⟩
    cases jump with
    | none =>
      obtain ⟨i, K, hS, hi⟩ := hj
      exact hdone i K W4 hS hi
    | some c => obtain ⟨K, h⟩ := hj; exact hstop c K W4 h

/-- The loop in a function's own frame, over an iterator that turns nothing that lay there. -/
theorem wpIn_range (hro : F.round = none) (hd : F.depth = none) (hF : ∀ f, F.fn f) {g : Operand} {ps : Array Tmp} {assign body : Code} {Q : Exit → Act → World → Prop} {a : Act} {w : World}
    {gf : Nat} {lb : Array Value} (hg : a.eval g = .func (.func gf) #[] lb) (eg : ∀ args w, (callFunc gf args).run P w = .ok (.enter gf args) w)
    {Fb : Nat → Prop} {X : Nat → Array Value → World → Prop} {S : Nat → Prop} {K0 : Nat → Prop}
    (hit : Iterates F (n - 1) P gf lb Fb X S w) (hps : ∀ i vs W, X i vs W → vs.size = ps.size) (hK0 : ∀ b, K0 b → Fb b ∧ b < w.heap.size)
    (I : Nat → (Nat → Prop) → World → Prop) (Ix : Code → (Nat → Prop) → World → Prop) (hlt : ∀ i K A, I i K A → (∀ b, K b → b < A.heap.size))
    (hI : ∀ i K A C, I i K A → Fr (Kin nowhere w.heap.size K) A C → I i K C) (hIx : ∀ c K A C, Ix c K A → Fr (Kin nowhere w.heap.size K) A C → Ix c K C)
    (h0 : I 0 K0 w)
    (hbody : ∀ i K vs W, w.heap.size + 1 < W.heap.size → (∃ r, W.heap[w.heap.size + 1]? = some (.loop r)) → I i K W → ¬ K (w.heap.size + 1) → ¬ K w.heap.size → X i vs W →
      assign.wpIn (F.inRound (w.heap.size + 1)) (n - 1 - 1) P (Exit.then (fun a1 Wa => Fr nowhere W Wa ∧ ∀ W2, Fr (fun b => b = w.heap.size + 1) Wa W2 → I i K W2 → (∃ r, W2.heap[w.heap.size + 1]? = some (.loop r)) →
          body.wpIn (F.inRound (w.heap.size + 1)) (n - 1 - 1) P (rndPost K (I (i + 1)) Ix W2) a1 W2) (fun _ _ _ => False))
        { tmps := (ps.zip vs).foldl (fun t (p, v) => t.setIfInBounds p v) a.tmps, defers := [] } W)
    (hdone : ∀ i K W, S i → I i K W → W.heap[w.heap.size]? = some (.deferred (some [])) → Q .normal { a with defers := { target := .collected w.heap.size, args := #[] } :: a.defers } W)
    (hstop : ∀ c K W, Ix c K W → W.heap[w.heap.size]? = some (.deferred (some [])) → c.wpIn F n P Q { a with defers := { target := .collected w.heap.size, args := #[] } :: a.defers } W) :
    (Code.rangeFunc g ps assign body).wpIn F n P Q a w :=
  wpIn_rangeO hro hd hF hg eg (Kn := fun B _ K => Kin nowhere B K) (S := fun i _ => S i) hit (fun _ _ _ _ h => h.1.imp id (fun h => h.elim)) (fun _ _ _ h _ => h) hps hK0 I Ix hlt (fun _ _ _ _ hB h => ⟨h.1.imp (Nat.le_trans hB) id, h.2⟩)
    (fun i K A C h n1 n2 hf => hI i K A C h (hf.mono (fun b _ e => by rcases e with rfl | rfl | e; exact ⟨.inl (by omega), n1⟩; exact ⟨.inl (Nat.le_refl _), n2⟩; exact e)))
    (fun c K A C h n1 hf => hIx c K A C h (hf.mono (fun b _ e => by rcases e with rfl | e; exact ⟨.inl (by omega), n1⟩; exact e))) h0 (fun i K vs W x1 x2 _ => hbody i K vs W x1 x2) hdone hstop
/-- The same, in a round of another one. -/
theorem wpIn_range_inner {l₀ : Nat} {r₀ : Loop} (hro : F.round = some l₀) (hd : F.depth = none) (hF : ∀ f, F.fn f) {g : Operand} {ps : Array Tmp} {assign body : Code} {Q : Exit → Act → World → Prop} {a : Act} {w : World}
    (hr0 : w.heap[l₀]? = some (.loop r₀))
    {gf : Nat} {lb : Array Value} (hg : a.eval g = .func (.func gf) #[] lb) (eg : ∀ args w, (callFunc gf args).run P w = .ok (.enter gf args) w)
    {Fb : Nat → Prop} {X : Nat → Array Value → World → Prop} {S : Nat → Prop} {K0 : Nat → Prop}
    (hit : Iterates F (n - 1) P gf lb Fb X S w) (hps : ∀ i vs W, X i vs W → vs.size = ps.size) (hK0 : ∀ b, K0 b → Fb b ∧ b < w.heap.size)
    (I : Nat → (Nat → Prop) → World → Prop) (Ix : Code → (Nat → Prop) → World → Prop) (hlt : ∀ i K A, I i K A → (∀ b, K b → b < A.heap.size))
    (hI : ∀ i K A C, I i K A → Fr (Kin nowhere w.heap.size K) A C → I i K C) (hIx : ∀ c K A C, Ix c K A → Fr (Kin nowhere w.heap.size K) A C → Ix c K C)
    (h0 : I 0 K0 w)
    (hbody : ∀ i K vs W, w.heap.size < W.heap.size → (∃ r, W.heap[w.heap.size]? = some (.loop r)) → I i K W → ¬ K w.heap.size → X i vs W →
      assign.wpIn (F.inRound w.heap.size) (n - 1 - 1) P (Exit.then (fun a1 Wa => Fr nowhere W Wa ∧ ∀ W2, Fr (fun b => b = w.heap.size) Wa W2 → I i K W2 → (∃ r, W2.heap[w.heap.size]? = some (.loop r)) →
          body.wpIn (F.inRound w.heap.size) (n - 1 - 1) P (rndPost K (I (i + 1)) Ix W2) a1 W2) (fun _ _ _ => False))
        { tmps := (ps.zip vs).foldl (fun t (p, v) => t.setIfInBounds p v) a.tmps, defers := [] } W)
    (hdone : ∀ i K W, S i → I i K W → Q .normal a W)
    (hstop : ∀ c K W, Ix c K W → c.wpIn F n P Q a W) :
    (Code.rangeFunc g ps assign body).wpIn F n P Q a w :=
  wpIn_range_innerO hro hd hF hr0 hg eg (Kn := fun B _ K => Kin nowhere B K) (S := fun i _ => S i) hit (fun _ _ _ _ h => h.1.imp id (fun h => h.elim)) (fun _ _ _ h _ => h) hps hK0 I Ix hlt (fun _ _ _ _ hB h => ⟨h.1.imp (Nat.le_trans hB) id, h.2⟩)
    (fun i K A C h n1 hf => hI i K A C h (hf.mono (fun b _ e => by rcases e with rfl | e; exact ⟨.inl (Nat.le_refl _), n1⟩; exact e)))
    (fun c K A C h n1 hf => hIx c K A C h (hf.mono (fun b _ e => by rcases e with rfl | e; exact ⟨.inl (Nat.le_refl _), n1⟩; exact e))) h0 hbody hdone hstop
end
end Go.Proofs.Ytgeldfgcicjidaa
