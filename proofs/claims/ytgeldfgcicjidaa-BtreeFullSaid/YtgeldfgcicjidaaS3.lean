/-
  Code, calls and memory, step by step, in states known by their parts.
-/
import Derived.Test.YtgeldfgcicjidaaS2
import Derived.Deep.MidRow
namespace Go.Proofs.Ytgeldfgcicjidaa
open Go.RowKit
set_option linter.unusedSimpArgs false
set_option linter.unusedVariables false

section
variable {P : Program} {ω : Amb} {n : Nat} {ds : List Deferred} {Γ Γ' Γ1 Δ : List HP} {β β' : List (Nat × Value)} {r : Option Nat} {ops : Array Oper} {Q : Exit → Act → World → Prop} {rest : List Oper} {K : Act → World → Prop}

theorem St.use (h : St ω n ds Γ β K) {a : Act} {w : World} (hh : Holds ω Γ w) (hb : Binds n ds β a) : K a w := h a w hh hb
theorem Holds.sub {w : World} (p : Pick Δ Γ Γ') (b : Holds ω Γ w) : Holds ω Δ w := by
  have h := (b.perm p.perm).2
  rw [Sep.append] at h
  obtain ⟨h1, h2, l1, l2, ap, ha, hb⟩ := h
  exact ⟨b.1, ha.mono l1⟩

-- how code goes on
theorem then_normal : Exit.then K Q .normal = K := rfl
theorem then_exit (i : Nat) : Exit.then K Q (.exit i) = Q (.exit i) := rfl
theorem then_ret : Exit.then K Q .ret = Q .ret := rfl
theorem block_normal (i : Nat) : Exit.inBlock i Q .normal = Q .normal := rfl
theorem block_ret (i : Nat) : Exit.inBlock i Q .ret = Q .ret := rfl
theorem block_same (i : Nat) : Exit.inBlock i Q (.exit i) = Q .normal := by funext a w; simp [Exit.inBlock]
theorem block_other (i j : Nat) (h : Nat.beq j i = false) : Exit.inBlock i Q (.exit j) = Q (.exit j) := by funext a w; simp [Exit.inBlock, Nat.ne_of_beq_eq_false h]

theorem St.then_n (h : St ω n ds Γ β K) : St ω n ds Γ β (Exit.then K Q .normal) := h
theorem St.then_x {i : Nat} (h : St ω n ds Γ β (Q (.exit i))) : St ω n ds Γ β (Exit.then K Q (.exit i)) := h
theorem St.then_r (h : St ω n ds Γ β (Q .ret)) : St ω n ds Γ β (Exit.then K Q .ret) := h
theorem St.blk_n {i : Nat} (h : St ω n ds Γ β (Q .normal)) : St ω n ds Γ β (Exit.inBlock i Q .normal) := h
theorem St.blk_r {i : Nat} (h : St ω n ds Γ β (Q .ret)) : St ω n ds Γ β (Exit.inBlock i Q .ret) := h
theorem St.blk_s {i : Nat} (h : St ω n ds Γ β (Q .normal)) : St ω n ds Γ β (Exit.inBlock i Q (.exit i)) := by rw [block_same]; exact h
theorem St.blk_o {i j : Nat} (hn : Nat.beq j i = false) (h : St ω n ds Γ β (Q (.exit j))) : St ω n ds Γ β (Exit.inBlock i Q (.exit j)) := by rw [block_other i j hn]; exact h
theorem do_seq {x y : Code} (h : St ω n ds Γ β (Do P r x (Exit.then (Do P r y Q) Q))) : St ω n ds Γ β (Do P r (.seq x y) Q) := fun a w b c => wpIn_seq (h a w b c)
theorem do_region {id : Nat} {l : List Oper} (h : St ω n ds Γ β (Run P r l.toArray Q l)) : St ω n ds Γ β (Do P r (.region id l.toArray false) Q) := fun a w b c => wpIn_region_lit (h a w b c)
theorem do_skip (h : St ω n ds Γ β (Q .normal)) : St ω n ds Γ β (Do P r .skip Q) := fun a w b c => wpIn_skip (h a w b c)
theorem do_label {l : Nat} (h : St ω n ds Γ β (Q .normal)) : St ω n ds Γ β (Do P r (.label l) Q) := fun a w b c => wpIn_label (h a w b c)
theorem do_exit {i : Nat} (h : St ω n ds Γ β (Q (.exit i))) : St ω n ds Γ β (Do P r (.exit i) Q) := fun a w b c => wpIn_exit (h a w b c)
theorem do_ret (h : St ω n ds Γ β (Q .ret)) : St ω n ds Γ β (Do P r .ret Q) := fun a w b c => wpIn_ret (h a w b c)
theorem do_block {i : Nat} {c : Code} (h : St ω n ds Γ β (Do P r c (Exit.inBlock i Q))) : St ω n ds Γ β (Do P r (.block i c) Q) := fun a w b d => wpIn_block (h a w b d)
theorem do_scope {c : Code} (h : St ω n ds Γ β (Do P r c (Exit.noGoto Q))) : St ω n ds Γ β (Do P r (.scope c) Q) := fun a w b d => wpIn_scope_straight (h a w b d)
theorem do_cond {c : Operand} {x y : Code} {b : Bool} (hc : ev β c = some (.bool b)) (ht : b = true → St ω n ds Γ β (Do P r x Q)) (hf : b = false → St ω n ds Γ β (Do P r y Q)) : St ω n ds Γ β (Do P r (.cond c x y) Q) :=
  fun a w hh hb => wpIn_cond_split (hb.eval hc) (fun e => ht e a w hh hb) (fun e => hf e a w hh hb)
theorem do_condp {c : Operand} {x y : Code} {p : Prop} [Decidable p] (hc : ev β c = some (.bool (decide p))) (ht : p → St ω n ds Γ β (Do P r x Q)) (hf : ¬ p → St ω n ds Γ β (Do P r y Q)) : St ω n ds Γ β (Do P r (.cond c x y) Q) :=
  do_cond hc (fun e => ht (of_decide_eq_true e)) (fun e => hf (of_decide_eq_false e))
theorem do_cond_t {c : Operand} {x y : Code} (hc : ev β c = some (.bool true)) (ht : St ω n ds Γ β (Do P r x Q)) : St ω n ds Γ β (Do P r (.cond c x y) Q) := do_cond hc (fun _ => ht) (fun e => by cases e)
theorem do_cond_f {c : Operand} {x y : Code} (hc : ev β c = some (.bool false)) (hf : St ω n ds Γ β (Do P r y Q)) : St ω n ds Γ β (Do P r (.cond c x y) Q) := do_cond hc (fun e => by cases e) (fun _ => hf)
/-- A piece of code by what holds behind it. -/
theorem do_cut {c : Code} {α : Sort _} (φ : α → Prop) (β' : α → List (Nat × Value)) (Γ' : α → List HP)
    (h : ∀ K : Act → World → Prop, (∀ x, φ x → St ω n ds (Γ' x) (β' x) K) → St ω n ds Γ β (Do P r c (Exit.then K Q))) (k : ∀ x, φ x → St ω n ds (Γ' x) (β' x) K) : St ω n ds Γ β (Do P r c (Exit.then K Q)) := h K k
theorem wpIn_loop_ghost {α : Sort _} {F : Fence} {m : Nat} {c : Code} (I : α → Act → World → Prop) (μ : α → Nat) {x0 : α} {a : Act} {w : World} (h0 : I x0 a w)
    (round : ∀ x a w, I x a w → c.wpIn F m P (Exit.then (fun a' w' => ∃ y, I y a' w' ∧ μ y < μ x) Q) a w) : (Code.loop c).wpIn F m P Q a w := by
  intro b k cs hro hb hr
  have key : ∀ j x a w, μ x = j → I x a w →
      ∃ e a' w', Q e a' w' ∧ ArrivesIn (Machine.fenced P F) P (lone (b.atR a (.code c :: .inLoop c :: k)) cs w) b k cs e a' w' := by
    intro j
    induction j using Nat.strongRecOn with
    | _ j ih =>
      intro x a w hn hI
      obtain ⟨e, a₁, w₁, hq, harr⟩ := round x a w hI b (.inLoop c :: k) cs hro hb hr
      cases e with
      | normal =>
        obtain ⟨y, hI₁, hlt⟩ := hq
        obtain ⟨e₂, a₂, w₂, hq₂, harr₂⟩ := ih (μ y) (hn ▸ hlt) y a₁ w₁ rfl hI₁
        exact ⟨e₂, a₂, w₂, hq₂, .of_steps (StepsIn.trans harr (.one (fenced_calm hb hr rfl) stepR_inLoop)) harr₂⟩
      | exit id => exact ⟨_, a₁, w₁, hq, .pass (x := .inLoop c) rfl (fun _ _ => .inl (by simp)) harr⟩
      | goto l => exact ⟨_, a₁, w₁, hq, .pass (x := .inLoop c) rfl (fun _ _ => .inl (by simp)) harr⟩
      | ret => exact ⟨_, a₁, w₁, hq, .pass (x := .inLoop c) rfl (fun _ _ => .inl (by simp)) harr⟩
      | panic ch => exact ⟨_, a₁, w₁, hq, .pass (x := .inLoop c) rfl (fun _ _ => .inl (by simp)) harr⟩
      | outgrown => exact ⟨_, a₁, w₁, hq, .pass (x := .inLoop c) rfl (fun _ _ => .inl (by simp)) harr⟩
  obtain ⟨e, a', w', hq, harr⟩ := key _ x0 a w rfl h0
  exact ⟨e, a', w', hq, .of_steps (.one (fenced_calm hb hr rfl) stepR_loop) harr⟩
/-- A loop: what holds at the head of each round, as a function of x; a measure. -/
theorem do_loop {c : Code} {α : Sort _} (φ : α → Prop) (β' : α → List (Nat × Value)) (Γ' : α → List HP) (μ : α → Nat) (x0 : α) (h0 : φ x0) (hβ : Sub (β' x0) β) (hΓ : Pick (Γ' x0) Γ Γ1)
    (round : ∀ x, φ x → St ω n ds (Γ' x) (β' x) (Do P r c (Exit.then (fun a w => ∃ y, φ y ∧ μ y < μ x ∧ Holds ω (Γ' y) w ∧ Binds n ds (β' y) a) Q))) : St ω n ds Γ β (Do P r (.loop c) Q) := by
  intro a w hh hb
  refine wpIn_loop_ghost (fun x a w => φ x ∧ Holds ω (Γ' x) w ∧ Binds n ds (β' x) a) μ (x0 := x0) ⟨h0, hh.sub hΓ, hb.sub hβ⟩ ?_
  intro x a w ⟨hφ, hh, hb⟩
  refine wpIn_mono (round x hφ a w hh hb) ?_
  intro e a' w' h
  cases e with
  | normal =>
    obtain ⟨y, h1, h2, h3, h4⟩ := h
    exact ⟨y, ⟨h1, h3, h4⟩, h2⟩
  | _ => exact h
theorem loop_back {α : Sort _} {φ : α → Prop} {β' : α → List (Nat × Value)} {Γ' : α → List HP} {μ : α → Nat} {m : Nat} (y : α) (h0 : φ y) (hμ : μ y < m) (hβ : Sub (β' y) β) (hΓ : Pick (Γ' y) Γ Γ1) :
    St ω n ds Γ β (fun a w => ∃ y, φ y ∧ μ y < m ∧ Holds ω (Γ' y) w ∧ Binds n ds (β' y) a) := fun _ _ hh hb => ⟨y, h0, hμ, hh.sub hΓ, hb.sub hβ⟩

-- a function's frame
def argsB : Nat → List Value → List (Nat × Value)
  | _, [] => []
  | i, v :: vs => (i, v) :: argsB (i + 1) vs
theorem look_argsB (vs : List Value) : ∀ i k v, look (argsB i vs) k = some v → i ≤ k ∧ vs[k - i]? = some v := by
  induction vs with
  | nil => intro i k v h; cases h
  | cons u vs ih =>
    intro i k v h
    unfold argsB look at h
    split at h
    · rename_i hb
      have := Nat.eq_of_beq_eq_true hb
      subst this
      cases h
      simp
    · obtain ⟨h1, h2⟩ := ih _ _ _ h
      refine ⟨by omega, ?_⟩
      obtain ⟨j, rfl⟩ : ∃ j, k = i + 1 + j := ⟨k - (i + 1), by omega⟩
      have e1 : i + 1 + j - (i + 1) = j := by omega
      have e2 : i + 1 + j - i = j + 1 := by omega
      rw [e1] at h2
      rw [e2]
      simpa using h2
/-- A call of a Go function, by its body. -/
theorem enter {f : FuncId} {fn : Func} {c : Code} {vs : List Value} {R : Ending → World → Prop} {w : World} (hf : P.funcs[f]? = some fn) (hb : fn.body = some c) (hn : fn.ntmps = n) (hl : Nat.ble vs.length n = true) (hh : Holds ω Γ w)
    (h : St ω n [] Γ (argsB 0 vs) (Do P none c (bodyPost P fn R))) : Calls P f vs.toArray w R := by
  refine (callsIn_wide (n := 0)).1 (callsIn_of_wp hf hb trivial ?_)
  have hle := Nat.le_of_ble_eq_true hl
  refine h _ _ hh ⟨by simp [hn]; omega, rfl, fun k v e => ?_⟩
  obtain ⟨_, hv⟩ := look_argsB vs 0 k v e
  have hk := (List.getElem?_eq_some_iff.1 hv).1
  simp only [Nat.sub_zero] at hv hk
  rw [Array.getElem?_append_left (by simpa using hk)]
  simpa using hv
/-- What a result variable has. -/
def resIs (P : Program) (tmps : Array Value) (w : World) (v : Value) : ResultVar → Prop
  | .tmp t => tmps.getD t undef = v
  | .cell x t => ∃ ad, tmps.getD x undef = .pointer (some ad) ∧ (loadVar t ad).run P w = .ok v w
def ResAt (P : Program) (ω : Amb) (n : Nat) (ds : List Deferred) (Γ : List HP) (β : List (Nat × Value)) (rv : ResultVar) (v : Value) : Prop :=
  ∀ a w, Holds ω Γ w → Binds n ds β a → resIs P a.tmps w v rv
theorem res_tmp {t : Tmp} {v : Value} (h : look β t = some v) : ResAt P ω n ds Γ β (.tmp t) v := fun a w _ hb => by
  have := hb.get _ _ h
  simp [resIs, this]
theorem results_1 {fn : Func} {rv : ResultVar} {v : Value} (hf : fn.results = #[rv]) {tmps : Array Value} {w : World} (h : resIs P tmps w v rv) : (results fn tmps).run P w = .ok v w := by
  cases rv with
  | tmp t => simp [resIs] at h; simp [results, hf, h]
  | cell x t => obtain ⟨ad, h1, h2⟩ := h; simp at h1; simp [results, hf, h1, h2, asAddr]
theorem results_2 {fn : Func} {rv ru : ResultVar} {v u : Value} (hf : fn.results = #[rv, ru]) {tmps : Array Value} {w : World} (h : resIs P tmps w v rv) (h' : resIs P tmps w u ru) : (results fn tmps).run P w = .ok (.tuple #[v, u]) w := by
  cases rv <;> cases ru <;> simp only [resIs] at h h' <;> first
    | (simp at h h'; simp [results, hf, h, h']; done)
    | (obtain ⟨ad, h1, h2⟩ := h; simp at h1 h'; simp [results, hf, h1, h2, h', asAddr]; done)
    | (obtain ⟨ad, h1, h2⟩ := h'; simp at h1 h; simp [results, hf, h1, h2, h, asAddr]; done)
    | (obtain ⟨ad, h1, h2⟩ := h; obtain ⟨ad', h3, h4⟩ := h'; simp at h1 h3; simp [results, hf, h1, h2, h3, h4, asAddr]; done)
theorem results_3 {fn : Func} {rv ru rt : ResultVar} {v u t : Value} (hf : fn.results = #[rv, ru, rt]) {tmps : Array Value} {w : World} (h : resIs P tmps w v rv) (h' : resIs P tmps w u ru) (h'' : resIs P tmps w t rt) : (results fn tmps).run P w = .ok (.tuple #[v, u, t]) w := by
  cases rv <;> cases ru <;> cases rt <;> simp only [resIs] at h h' h'' <;> first
    | (simp at h h' h''; simp [results, hf, h, h', h'']; done)
    | (obtain ⟨ad, h1, h2⟩ := h; simp at h1 h' h''; simp [results, hf, h1, h2, h', h'', asAddr]; done)
    | (obtain ⟨ad, h1, h2⟩ := h'; simp at h1 h h''; simp [results, hf, h1, h2, h, h'', asAddr]; done)
    | (obtain ⟨ad, h1, h2⟩ := h''; simp at h1 h h'; simp [results, hf, h1, h2, h, h', asAddr]; done)
    | (obtain ⟨ad, h1, h2⟩ := h; obtain ⟨ad', h3, h4⟩ := h'; simp at h1 h3 h''; simp [results, hf, h1, h2, h3, h4, h'', asAddr]; done)
    | (obtain ⟨ad, h1, h2⟩ := h; obtain ⟨ad', h3, h4⟩ := h''; simp at h1 h3 h'; simp [results, hf, h1, h2, h3, h4, h', asAddr]; done)
    | (obtain ⟨ad, h1, h2⟩ := h'; obtain ⟨ad', h3, h4⟩ := h''; simp at h1 h3 h; simp [results, hf, h1, h2, h3, h4, h, asAddr]; done)
    | (obtain ⟨ad, h1, h2⟩ := h; obtain ⟨ad', h3, h4⟩ := h'; obtain ⟨ad'', h5, h6⟩ := h''; simp at h1 h3 h5; simp [results, hf, h1, h2, h3, h4, h5, h6, asAddr]; done)
theorem do_ret0 {fn : Func} {R : Ending → World → Prop} (hf : fn.results = #[]) (k : ∀ w, Holds ω Γ w → R (.returned (.tuple #[])) w) : St ω n [] Γ β (bodyPost P fn R .ret) := fun _ w hh hb =>
  ⟨hb.defers, .tuple #[], results_none hf _ _ _, k w hh⟩
theorem do_end0 {fn : Func} {R : Ending → World → Prop} (hf : fn.results = #[]) (k : ∀ w, Holds ω Γ w → R (.returned (.tuple #[])) w) : St ω n [] Γ β (bodyPost P fn R .normal) := fun _ w hh hb =>
  ⟨hb.defers, .tuple #[], results_none hf _ _ _, k w hh⟩
theorem do_ret1 {fn : Func} {R : Ending → World → Prop} {rv : ResultVar} {v : Value} (hf : fn.results = #[rv]) (h : ResAt P ω n [] Γ β rv v) (k : ∀ w, Holds ω Γ w → R (.returned v) w) : St ω n [] Γ β (bodyPost P fn R .ret) := fun a w hh hb =>
  ⟨hb.defers, v, results_1 hf (h a w hh hb), k w hh⟩
theorem do_ret2 {fn : Func} {R : Ending → World → Prop} {rv ru : ResultVar} {v u : Value} (hf : fn.results = #[rv, ru]) (h : ResAt P ω n [] Γ β rv v) (h' : ResAt P ω n [] Γ β ru u) (k : ∀ w, Holds ω Γ w → R (.returned (.tuple #[v, u])) w) : St ω n [] Γ β (bodyPost P fn R .ret) := fun a w hh hb =>
  ⟨hb.defers, .tuple #[v, u], results_2 hf (h a w hh hb) (h' a w hh hb), k w hh⟩
theorem do_ret3 {fn : Func} {R : Ending → World → Prop} {rv ru rt : ResultVar} {v u t : Value} (hf : fn.results = #[rv, ru, rt]) (h : ResAt P ω n [] Γ β rv v) (h' : ResAt P ω n [] Γ β ru u) (h'' : ResAt P ω n [] Γ β rt t) (k : ∀ w, Holds ω Γ w → R (.returned (.tuple #[v, u, t])) w) : St ω n [] Γ β (bodyPost P fn R .ret) := fun a w hh hb =>
  ⟨hb.defers, .tuple #[v, u, t], results_3 hf (h a w hh hb) (h' a w hh hb) (h'' a w hh hb), k w hh⟩

-- calls
def evs (β : List (Nat × Value)) : List Operand → Option (List Value)
  | [] => some []
  | x :: l => match ev β x, evs β l with
    | some v, some vs => some (v :: vs)
    | _, _ => none
theorem evs_map {a : Act} (hb : Binds n ds β a) : ∀ (l : List Operand) (vs : List Value), evs β l = some vs → l.map a.eval = vs := by
  intro l
  induction l with
  | nil => intro vs h; cases h; rfl
  | cons x l ih =>
    intro vs h
    unfold evs at h
    split at h
    · rename_i v us h1 h2
      cases h
      simp [hb.eval h1, ih _ h2]
    · cases h
theorem rd_makeFunc {d : Option Tmp} {ty : TypeId} {pos : String} {af : Array Edge} {gd : Option (Nat × Bool)} {f : Fn} {l : List Operand} {vs : List Value} (h : evs β l = some vs) : Reads P ω n ds Γ β ⟨d, .makeFunc f #[] l.toArray, ty, pos, af, gd⟩ (.func f #[] vs.toArray) := fun a w hh hb => by
  simp [execOp, Instr.makeFunc, evs_map hb l vs h]
/-- Is the function one with a body of its own? -/
def hasBody (P : Program) (f : FuncId) : Bool := match P.funcs[f]? with
  | some fn => !(fn.name == "runtime.NumGoroutine") && !fn.body.isNone
  | none => false
theorem run_callFunc {f : FuncId} (hf : hasBody P f = true) (args : Array Value) (w : World) : (callFunc f args).run P w = .ok (.enter f args) w := by
  unfold hasBody at hf
  have hp : (program : Sem Program).run P w = .ok P w := rfl
  unfold callFunc
  rw [Sem.run_bind, hp]
  split at hf
  · rename_i fn h
    simp only [Bool.and_eq_true, Bool.not_eq_true'] at hf
    simp only [Result.andThen_ok, h, hf.1, hf.2, Bool.false_eq_true, if_false]
    rfl
  · cases hf
theorem calls_in (r : Option Nat) {f : FuncId} {args : Array Value} {w : World} {R : Ending → World → Prop} (h : Calls P f args w R) : CallsIn (wd r) 0 P f args w R :=
  let k := (callsIn_wide (n := 0)).2 h
  ⟨k.1, fun cs _ => k.2 cs (room_wide _)⟩
/-- A call whose callee's value is a Go function, with what it has captured. -/
theorem run_call_any {d : Option Tmp} {ty : TypeId} {pos : String} {af : Array Edge} {gd : Option (Nat × Bool)} {g : Operand} {f : FuncId} {cap : Array Value} {l : List Operand} {vs : List Value} {tys : Array TypeId}
    (hw : wants ops β gd = some true) (hf : hasBody P f = true) (hg : ev β g = some (.func (.func f) #[] cap)) (hl : evs β l = some vs)
    (h : ∀ a w, Holds ω Γ w → Binds n ds β a → Calls P f (vs.toArray ++ cap) w (fun e w' => ∃ v, e = .returned v ∧ Run P r ops Q rest (a.put d v) w')) :
    St ω n ds Γ β (Run P r ops Q (⟨d, .call { callee := .value g, args := l.toArray, argTypes := tys }, ty, pos, af, gd⟩ :: rest)) := by
  intro a w hh hb
  refine wpListIn_step fun K hK => ?_
  rw [if_pos (wanted_of hb hw)]
  refine ⟨fun _ _ => trivial, ?_⟩
  rw [semAt_any _ _ _ (by simp)]
  have hm := evs_map hb l vs hl
  have : (execOp a.eval ⟨d, .call { callee := .value g, args := l.toArray, argTypes := tys }, ty, pos, af, gd⟩).run P w = .ok (.enter f (vs.toArray ++ cap)) w := by
    simp only [execOp, resolve, List.map_toArray, hm, hb.eval hg, Deferred.ofValue]
    simp [invoke, run_callFunc hf]
  rw [this]
  refine ⟨fun hd => absurd hd (wd_depth r), (calls_in r (h a w hh hb)).mono ?_⟩
  rintro e w' ⟨v, rfl, hrun⟩
  exact hK _ _ hrun
theorem run_call {d : Option Tmp} {ty : TypeId} {pos : String} {af : Array Edge} {gd : Option (Nat × Bool)} {f : FuncId} {l : List Operand} {vs : List Value} {tys : Array TypeId}
    (hw : wants ops β gd = some true) (hf : hasBody P f = true) (hl : evs β l = some vs)
    (h : ∀ a w, Holds ω Γ w → Binds n ds β a → Calls P f vs.toArray w (fun e w' => ∃ v, e = .returned v ∧ Run P r ops Q rest (a.put d v) w')) :
    St ω n ds Γ β (Run P r ops Q (⟨d, .call { callee := .value (.func f), args := l.toArray, argTypes := tys }, ty, pos, af, gd⟩ :: rest)) :=
  run_call_any (cap := #[]) hw hf rfl hl (fun a w hh hb => by simpa using h a w hh hb)
/-- A contract: what is there, beside a frame F; what comes of it. -/
def Spec (P : Program) (f : FuncId) (vs : List Value) (Ps : List HP) (F : HP) {α : Sort _} (φ : α → Prop) (ret : α → Value) (Qs : α → List HP) : Prop :=
  ∀ ω w, Holds ω (Ps ++ [F]) w → Calls P f vs.toArray w (fun e w' => ∃ x, φ x ∧ e = .returned (ret x) ∧ Holds ω (Qs x ++ [F]) w')
theorem run_spec {d : Nat} {ty : TypeId} {pos : String} {af : Array Edge} {gd : Option (Nat × Bool)} {f : FuncId} {l : List Operand} {vs : List Value} {tys : Array TypeId} {Ps : List HP} {α : Sort _} {φ : α → Prop} {ret : α → Value} {Qs : α → List HP}
    (hw : wants ops β gd = some true) (hd : d < n) (hf : hasBody P f = true) (hl : evs β l = some vs) (hp : Pick Ps Γ Γ') (hs : Spec P f vs Ps (Sep Γ') φ ret Qs)
    (k : ∀ x, φ x → St ω n ds (Qs x ++ Γ') ((d, ret x) :: β) (Run P r ops Q rest)) :
    St ω n ds Γ β (Run P r ops Q (⟨some d, .call { callee := .value (.func f), args := l.toArray, argTypes := tys }, ty, pos, af, gd⟩ :: rest)) :=
  run_call hw hf hl fun a w hh hb => (hs ω w (hh.pick hp)).mono fun e w' ⟨x, hφ, he, hw'⟩ => ⟨_, he, k x hφ _ _ hw'.unpick (hb.put hd _)⟩
end
end Go.Proofs.Ytgeldfgcicjidaa
