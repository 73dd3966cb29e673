/-
  'for .. := range f' in states known by their parts: the iterator's contract, the loop, the function's end behind loops.
-/
import Derived.Test.YtgeldfgcicjidaaS7
namespace Go.Proofs.Ytgeldfgcicjidaa
open Go.RowKit
set_option linter.unusedSimpArgs false
set_option linter.unusedVariables false

/-- A call of yield. -/
def Yields (P : Program) (l : Nat) (vs : List Value) (w : World) (R : Ending → World → Prop) : Prop := YieldAt Fence.wide 0 P l vs.toArray w R
/-- What the loop does with an item: it goes on, or stops. IT: what the iterator lends. -/
def YieldOk (P : Program) (ω : Amb) (l : Nat) (J : Nat → HP) (Jx IT : HP) (X : Nat → List Value → Prop) (R : Nat → List Value → HP) : Prop :=
  ∀ (F : HP) (i : Nat) (vs : List Value) (w : World), X i vs → Holds ω [J i, R i vs, IT, F] w →
    Yields P l vs w fun e w' => (e = .returned (.bool true) ∧ Holds ω [J (i + 1), IT, F] w') ∨ (e = .returned (.bool false) ∧ Holds ω [Jx, F] w')
/-- An iterator's contract: it hands out items vs with X i vs, of which it gives R i vs away; behind i items, where fin i, it may be through. -/
def IterS (P : Program) (g : FuncId) (cap : List Value) (IT : HP) (X : Nat → List Value → Prop) (R : Nat → List Value → HP) (fin : Nat → Prop) (F0 : HP) : Prop :=
  ∀ (ω : Amb) (l : Nat) (J : Nat → HP) (Jx : HP) (w : World), YieldOk P ω l J Jx IT X R → Holds ω [J 0, IT, F0] w →
    Calls P g (.func (.yield l) #[] #[] :: cap).toArray w fun e w' => (∃ v, e = .returned v) ∧ ((∃ i, fin i ∧ Holds ω [J i, IT, F0] w') ∨ Holds ω [Jx, F0] w')

section
variable {P : Program} {ω : Amb} {n : Nat} {ds : List Deferred} {Γ Γ' Γ1 Δ : List HP} {β β' : List (Nat × Value)} {r : Option Nat} {ops : Array Oper} {Q : Exit → Act → World → Prop} {rest : List Oper} {K : Act → World → Prop}
variable {w w' : World} {g : Nat}

theorem Holds.putObj {o o' : Obj} (b : Holds ω (blk g o :: Γ) w) : Holds ω (blk g o' :: Γ) (w.putObj g o') :=
  b.turn rfl (World.putObj_heap_same (heap_lt (b.block .head))) (fun _ hx _ => World.putObj_heap_other hx)
theorem Holds.swap_ {A B : HP} (b : Holds ω (A :: B :: Γ) w) : Holds ω (B :: A :: Γ) w := b.perm (.swap ..)
theorem Holds.app_comm (b : Holds ω (Γ ++ Δ) w) : Holds ω (Δ ++ Γ) w := b.perm List.perm_append_comm
/-- What is to come of a round's body. -/
def rndS (ω : Amb) (I' : List HP) (Ix : Code → List HP) (IT FR : HP) : Exit → Act → World → Prop
  | .normal, _, w => Holds ω (I' ++ [IT, FR]) w
  | .ret, _, w => Holds ω (Ix .ret ++ [FR]) w
  | .exit id, _, w => Holds ω (Ix (.exit id) ++ [FR]) w
  | .goto t, _, w => Holds ω (Ix (.goto t) ++ [FR]) w
  | _, _, _ => False
/-- The record of a loop is among what the round does not touch. -/
def hasLoop (l : Nat) (FR : HP) : Prop := ∀ h, FR h → ∃ r, h l = some (.loop r)
def zipB (ps : List Tmp) (vs : List Value) (β : List (Nat × Value)) : List (Nat × Value) := (ps.zip vs).foldl (fun b p => p :: b) β
theorem zip_binds {tm : Array Value} : ∀ (l : List (Nat × Value)) (β : List (Nat × Value)) (tm : Array Value), (∀ p ∈ l, p.1 < n) → Binds n [] β ⟨tm, []⟩ → Binds n [] (l.foldl (fun b p => p :: b) β) ⟨l.foldl (fun t p => t.setIfInBounds p.1 p.2) tm, []⟩ := by
  intro l
  induction l with
  | nil => intro β tm _ h; exact h
  | cons p l ih =>
    intro β tm hl h
    simp only [List.foldl_cons]
    refine ih _ _ (fun q hq => hl q (List.mem_cons_of_mem _ hq)) ?_
    have := h.put (hl p (List.mem_cons_self ..)) p.2
    exact this
theorem loop_round {ps : List Tmp} {assign body : Code} {l : Nat} {rec0 : LoopState → Option Code → Loop} {fn : FuncId} {tm : Array Value} {dfr : Nat} (hrec : rec0 = fun st pe => { state := st, pending := pe, fn, tmps := tm, params := ps.toArray, assign, body, defers := dfr })
    {I : Nat → List HP} {Ix : Code → List HP} {IT : HP} {X : Nat → List Value → Prop} {R : Nat → List Value → HP} {α : Sort _} (φ : Nat → List Value → α → Prop) (βa : Nat → List Value → α → List (Nat × Value)) (Γa : Nat → List Value → α → List HP) (hps : ∀ i vs, X i vs → vs.length = ps.length) (hpn : ps.all (fun p => Nat.blt p n) = true)
    (hb : Binds n [] β ⟨tm, []⟩)
    (hassign : ∀ l FR i vs, X i vs → hasLoop l FR → St ω n [] (I i ++ [R i vs, IT, FR]) (zipB ps vs β) (Do P (some l) assign (Exit.then (fun a w => ∃ x, φ i vs x ∧ Holds ω (Γa i vs x ++ [FR]) w ∧ Binds n [] (βa i vs x) a) nopost)))
    (hbody : ∀ l FR i vs x, X i vs → φ i vs x → hasLoop l FR → St ω n [] (Γa i vs x ++ [FR]) (βa i vs x) (Do P (some l) body (rndS ω (I (i + 1)) Ix IT FR))) :
    YieldOk P ω l (fun i => Sep (blk l (.loop (rec0 .ready none)) :: I i)) (fun h => ∃ c, Sep (blk l (.loop (rec0 .done (some c))) :: Ix c) h) IT X R := by
  intro F i vs w hX hh
  have h1 : Holds ω (blk l (.loop (rec0 .ready none)) :: (I i ++ [R i vs, IT, F])) w := Holds.flat.1 hh
  have hl := h1.block .head
  have hlen := hps i vs hX
  have hy := run_yield (P := P) (args := vs.toArray) hl (by rw [hrec]; simpa using hlen)
  rw [hrec] at hy
  have hFR : ∀ st pe, hasLoop l (Sep [blk l (.loop (rec0 st pe)), F]) := fun st pe h hs => by
    obtain ⟨k1, k2, l1, l2, ap, hp, _⟩ := hs
    exact ⟨_, l1 _ _ hp⟩
  have hFR' : ∀ r, hasLoop l (Sep [blk l (.loop r), F]) := fun r h hs => by
    obtain ⟨k1, k2, l1, l2, ap, hp, _⟩ := hs
    exact ⟨_, l1 _ _ hp⟩
  have into : ∀ (r : Loop) (A : List HP) (w : World), Holds ω (blk l (.loop r) :: (A ++ [F])) w → Holds ω (A ++ [Sep [blk l (.loop r), F]]) w := fun r A w h => by
    have : Holds ω ([blk l (.loop r), F] ++ A) w := h.perm ((List.perm_append_comm (l₁ := A) (l₂ := [F])).cons _)
    exact ((Holds.flat (Γ := [blk l (.loop r), F]) (Δ := A)).2 this).perm (List.perm_append_comm (l₁ := [Sep [blk l (.loop r), F]]))
  have outof : ∀ (r : Loop) (A : List HP) (w : World), Holds ω (A ++ [Sep [blk l (.loop r), F]]) w → Holds ω (blk l (.loop r) :: (A ++ [F])) w := fun r A w h => by
    have h2 : Holds ω (Sep [blk l (.loop r), F] :: A) w := h.perm (List.perm_append_comm (l₂ := [Sep [blk l (.loop r), F]]))
    have h3 : Holds ω (blk l (.loop r) :: F :: A) w := Holds.flat.1 h2
    exact h3.perm ((List.perm_append_comm (l₁ := [F]) (l₂ := A)).cons _)
  refine ⟨fn, _, assign, body, hy, roundIn_of_wpIn trivial ?_⟩
  have hz : (ps.toArray.zip vs.toArray).foldl (fun tmps (x : Nat × Value) => tmps.setIfInBounds x.1 x.2) tm = (ps.zip vs).foldl (fun t p => t.setIfInBounds p.1 p.2) tm := by
    rw [← Array.foldl_toList]; simp
  have hb0 : Binds n [] (zipB ps vs β) ⟨(ps.zip vs).foldl (fun t p => t.setIfInBounds p.1 p.2) tm, []⟩ := zip_binds (tm := tm) _ _ _ (fun p hp => by
    have := List.all_eq_true.1 hpn p.1 (List.of_mem_zip hp).1
    exact Nat.blt_eq ▸ (by simpa using this)) hb
  have hA := hassign l (Sep [blk l (.loop (rec0 .ready none)), F]) i vs hX (hFR _ _) _ _ (by
    have := into (rec0 .ready none) (I i ++ [R i vs, IT]) w (by simpa using h1)
    simpa using this) hb0
  rw [← hz] at hA
  refine Code.wpIn_mono ?_ hA
  intro e a1 w1 hp
  cases e with
  | normal =>
    obtain ⟨x, hφ, hw1, hb1⟩ := hp
    have hw1' := outof _ _ _ hw1
    have hl1 := hw1'.block .head
    refine ⟨_, run_beginRound hl1 (by rw [hrec]), ?_⟩
    have hw2 : Holds ω (blk l (.loop { rec0 .ready none with state := .busy }) :: (Γa i vs x ++ [F])) (w1.putObj l (.loop { rec0 .ready none with state := .busy })) := hw1'.putObj
    have hB := hbody l (Sep [blk l (.loop { rec0 .ready none with state := .busy }), F]) i vs x hX hφ (hFR' _) _ _ (into _ _ _ hw2) hb1
    refine Code.wpIn_mono ?_ hB
    intro e a3 w3 hp3
    have fin : ∀ (jump : Option Code) (A : List HP), Holds ω (A ++ [Sep [blk l (.loop { rec0 .ready none with state := .busy }), F]]) w3 →
        ∃ w4, (Instr.endRound l jump).run P w3 = .ok (.bool jump.isNone) w4 ∧ Holds ω (blk l (.loop (rec0 (if jump.isNone then .ready else .done) jump)) :: (A ++ [F])) w4 := fun jump A h => by
      have h2 := outof _ _ _ h
      have h3 := run_endRound (P := P) jump (h2.block .head)
      rw [hrec] at h3 h2 ⊢
      exact ⟨_, h3, h2.putObj⟩
    cases e with
    | normal =>
      obtain ⟨w4, hr, h4⟩ := fin none (I (i + 1) ++ [IT]) (by simpa [rndS] using hp3)
      refine ⟨_, w4, hr, .inl ⟨rfl, ?_⟩⟩
      have h4' : Holds ω ((blk l (.loop (rec0 .ready none)) :: I (i + 1)) ++ [IT, F]) w4 := by simpa using h4
      exact Holds.flat.2 h4'
    | ret =>
      obtain ⟨w4, hr, h4⟩ := fin (some .ret) (Ix .ret) hp3
      refine ⟨_, w4, hr, .inr ⟨rfl, ?_⟩⟩
      have h4' : Holds ω ((blk l (.loop (rec0 .done (some .ret))) :: Ix .ret) ++ [F]) w4 := by simpa using h4
      exact (Holds.flat.2 h4').ent fun h hs => ⟨_, hs⟩
    | exit id =>
      obtain ⟨w4, hr, h4⟩ := fin (some (.exit id)) (Ix (.exit id)) hp3
      refine ⟨_, w4, hr, .inr ⟨rfl, ?_⟩⟩
      have h4' : Holds ω ((blk l (.loop (rec0 .done (some (.exit id)))) :: Ix (.exit id)) ++ [F]) w4 := by simpa using h4
      exact (Holds.flat.2 h4').ent fun h hs => ⟨_, hs⟩
    | goto t =>
      obtain ⟨w4, hr, h4⟩ := fin (some (.goto t)) (Ix (.goto t)) hp3
      refine ⟨_, w4, hr, .inr ⟨rfl, ?_⟩⟩
      have h4' : Holds ω ((blk l (.loop (rec0 .done (some (.goto t)))) :: Ix (.goto t)) ++ [F]) w4 := by simpa using h4
      exact (Holds.flat.2 h4').ent fun h hs => ⟨_, hs⟩
    | panic ch => exact hp3.elim
    | outgrown => exact hp3.elim
  | ret => exact hp.elim
  | exit id => exact hp.elim
  | goto t => exact hp.elim
  | panic ch => exact hp.elim
  | outgrown => exact hp.elim
/-- The loop in a function's own frame. -/
theorem do_range {gop : Operand} {ps : List Tmp} {assign body : Code} {gf : FuncId} {cap : List Value} (hg : ev β gop = some (.func (.func gf) #[] cap.toArray)) (hf : hasBody P gf = true)
    (I : Nat → List HP) (Ix : Code → List HP) {IT : HP} {X : Nat → List Value → Prop} {R : Nat → List Value → HP} {fin : Nat → Prop} (it : ∀ F0, IterS P gf cap IT X R fin F0) (hp : Pick (IT :: I 0) Γ Γ1)
    {α : Sort _} (φ : Nat → List Value → α → Prop) (βa : Nat → List Value → α → List (Nat × Value)) (Γa : Nat → List Value → α → List HP) (hps : ∀ i vs, X i vs → vs.length = ps.length) (hpn : ps.all (fun p => Nat.blt p n) = true)
    (hassign : ∀ l FR i vs, X i vs → hasLoop l FR → St ω n [] (I i ++ [R i vs, IT, FR]) (zipB ps vs β) (Do P (some l) assign (Exit.then (fun a w => ∃ x, φ i vs x ∧ Holds ω (Γa i vs x ++ [FR]) w ∧ Binds n [] (βa i vs x) a) nopost)))
    (hbody : ∀ l FR i vs x, X i vs → φ i vs x → hasLoop l FR → St ω n [] (Γa i vs x ++ [FR]) (βa i vs x) (Do P (some l) body (rndS ω (I (i + 1)) Ix IT FR)))
    (hdone : ∀ D i, fin i → St ω n ({ target := .collected D, args := #[] } :: ds) (blk D (.deferred (some [])) :: (I i ++ IT :: Γ1)) β (Q .normal))
    (hstop : ∀ D c, St ω n ({ target := .collected D, args := #[] } :: ds) (blk D (.deferred (some [])) :: (Ix c ++ Γ1)) β (Do P none c Q)) :
    St ω n ds Γ β (Do P none (.rangeFunc gop ps.toArray assign body) Q) := by
  intro a w hh hb
  refine wpIn_rangeFunc ?_
  intro fn _
  obtain ⟨rec0, hrec⟩ : ∃ rec0 : LoopState → Option Code → Loop, rec0 = fun st pe => { state := st, pending := pe, fn, tmps := a.tmps, params := ps.toArray, assign, body, defers := w.heap.size } := ⟨_, rfl⟩
  obtain ⟨W1, hWe⟩ : ∃ W1, (w.alloc (.deferred (some []))).alloc (.loop (rec0 .ready none)) = W1 := ⟨_, rfl⟩
  have hW1 := (hh.alloc (.deferred (some []))).alloc (.loop (rec0 .ready none))
  rw [World.size_alloc, hWe] at hW1
  have hpk : Holds ω ([IT] ++ I 0 ++ [Sep Γ1]) w := hh.pick hp
  refine ⟨w.heap.size + 1, [{ target := .collected w.heap.size, args := #[] }], W1, { target := .fn (.func gf) cap.toArray, args := #[.func (.yield (w.heap.size + 1)) #[] #[]] }, W1, gf,
    (.func (.yield (w.heap.size + 1)) #[] #[] :: cap).toArray, W1, ?_, ?_, fun _ _ => trivial, ?_, fun h => absurd h (wd_depth none), ?_⟩
  · rw [← hWe, hrec]; exact run_enterLoop_outer _ _ _ _ _
  · simp only [resolve, rangeCall, hb.eval hg]
    simp [go_sem]
  · have := run_callFunc (P := P) hf (.func (.yield (w.heap.size + 1)) #[] #[] :: cap).toArray W1
    simp [invoke, go_sem, this]
  · have hb' : Binds n [] β ⟨a.tmps, []⟩ := ⟨hb.size, rfl, hb.get⟩
    have hy := loop_round (P := P) (ω := ω) (l := w.heap.size + 1) hrec φ βa Γa hps hpn hb' hassign hbody
    have hst : Holds ω [Sep (blk (w.heap.size + 1) (.loop (rec0 .ready none)) :: I 0), IT, Sep (blk w.heap.size (.deferred (some [])) :: Γ1)] W1 := by
      have h1 := hW1.perm ((hp.perm.cons (blk w.heap.size (.deferred (some [])))).cons (blk (w.heap.size + 1) (.loop (rec0 .ready none))))
      refine Holds.flat.2 ?_
      have h2 : Holds ω ((blk w.heap.size (.deferred (some [])) :: Γ1) ++ ((blk (w.heap.size + 1) (.loop (rec0 .ready none)) :: I 0) ++ [IT])) W1 := by
        refine h1.perm ?_
        simp only [List.cons_append]
        refine (List.Perm.swap _ _ _).trans (List.Perm.cons _ ?_)
        have e1 : (blk (w.heap.size + 1) (.loop (rec0 .ready none)) :: IT :: (I 0 ++ Γ1)).Perm (Γ1 ++ (blk (w.heap.size + 1) (.loop (rec0 .ready none)) :: (I 0 ++ [IT]))) := by
          have e2 : (blk (w.heap.size + 1) (.loop (rec0 .ready none)) :: IT :: (I 0 ++ Γ1)) = ((blk (w.heap.size + 1) (.loop (rec0 .ready none)) :: IT :: I 0) ++ Γ1) := by simp
          rw [e2]
          refine List.perm_append_comm.trans (List.Perm.append_left _ (List.Perm.cons _ ?_))
          exact List.perm_append_comm (l₁ := [IT])
        exact e1
      have h3 := (Holds.flat.2 h2).perm (List.perm_append_comm (l₁ := [Sep (blk w.heap.size (.deferred (some [])) :: Γ1)]))
      simpa using h3
    refine (calls_in none (it (Sep (blk w.heap.size (.deferred (some [])) :: Γ1)) ω (w.heap.size + 1) _ _ _ hy hst)).mono ?_
    rintro e w2 ⟨⟨v, rfl⟩, hcase⟩
    rcases hcase with ⟨i, hfin, hw2⟩ | hw2
    · have h1 : Holds ω (blk (w.heap.size + 1) (.loop (rec0 .ready none)) :: (I i ++ [IT, Sep (blk w.heap.size (.deferred (some [])) :: Γ1)])) w2 := Holds.flat.1 hw2
      have hend := run_endLoop (P := P) (h1.block .head) (by rw [hrec]; simp)
      refine ⟨none, _, by rw [hend, hrec], ?_⟩
      have h2 : Holds ω (I i ++ [IT, Sep (blk w.heap.size (.deferred (some [])) :: Γ1)]) (w2.putObj (w.heap.size + 1) (.loop { rec0 .ready none with state := .exhausted })) := (h1.putObj).drop
      have h3 : Holds ω ((I i ++ [IT]) ++ (blk w.heap.size (.deferred (some [])) :: Γ1)) (w2.putObj (w.heap.size + 1) (.loop { rec0 .ready none with state := .exhausted })) := Holds.unpick (by simpa using h2)
      refine hdone w.heap.size i hfin _ _ ?_ ⟨hb.size, by simp [hb.defers], hb.get⟩
      have h4 := h3.perm List.perm_middle
      rw [hrec] at h4
      simpa using h4
    · obtain ⟨c, hc⟩ := Sep.ex hw2.2
      have h1 : Holds ω (blk (w.heap.size + 1) (.loop (rec0 .done (some c))) :: (Ix c ++ [Sep (blk w.heap.size (.deferred (some [])) :: Γ1)])) w2 := Holds.flat.1 ⟨hw2.1, hc⟩
      have hend := run_endLoop (P := P) (h1.block .head) (by rw [hrec]; simp)
      refine ⟨some c, _, by rw [hend, hrec], ?_⟩
      have h2 : Holds ω (Ix c ++ [Sep (blk w.heap.size (.deferred (some [])) :: Γ1)]) (w2.putObj (w.heap.size + 1) (.loop { rec0 .done (some c) with state := .exhausted })) := (h1.putObj).drop
      have h3 := Holds.unpick h2
      refine hstop w.heap.size c _ _ ?_ ⟨hb.size, by simp [hb.defers], hb.get⟩
      have h4 := h3.perm List.perm_middle
      rw [hrec] at h4
      simpa using h4
end
end Go.Proofs.Ytgeldfgcicjidaa
