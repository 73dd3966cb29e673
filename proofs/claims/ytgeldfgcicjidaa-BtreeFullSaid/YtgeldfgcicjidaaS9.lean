/-
  Iterators in states known by their parts: the call of yield; functions that end behind loops over functions.
-/
import Derived.Test.YtgeldfgcicjidaaS8
namespace Go.Proofs.Ytgeldfgcicjidaa
open Go.RowKit
set_option linter.unusedSimpArgs false
set_option linter.unusedVariables false

section
variable {P : Program} {ω : Amb} {n : Nat} {ds : List Deferred} {Γ Γ' Γ0 Γ1 Δ : List HP} {β β' : List (Nat × Value)} {r : Option Nat} {ops : Array Oper} {Q : Exit → Act → World → Prop} {rest : List Oper} {K : Act → World → Prop}
variable {w w' : World} {g : Nat}

theorem run_yield_ {d : Option Tmp} {ty : TypeId} {pos : String} {af : Array Edge} {gd : Option (Nat × Bool)} {gop : Operand} {l : Nat} {args : List Operand} {vs : List Value} {tys : Array TypeId}
    (hw : wants ops β gd = some true) (hg : ev β gop = some (.func (.yield l) #[] #[])) (he : evs β args = some vs)
    (h : ∀ a w, Holds ω Γ w → Binds n ds β a → Yields P l vs w (fun e w' => ∃ v, e = .returned v ∧ Run P none ops Q rest (a.put d v) w')) :
    St ω n ds Γ β (Run P none ops Q (⟨d, .call { callee := .value gop, args := args.toArray, argTypes := tys }, ty, pos, af, gd⟩ :: rest)) := by
  intro a w hh hb
  refine wpListIn_step fun K hK => ?_
  rw [if_pos (wanted_of hb hw)]
  refine ⟨fun _ _ => trivial, ?_⟩
  rw [semAt_any _ _ _ (by simp)]
  have hm := evs_map hb args vs he
  obtain ⟨fn, tmps, assign, body, hy, hR⟩ := h a w hh hb
  have : (execOp a.eval ⟨d, .call { callee := .value gop, args := args.toArray, argTypes := tys }, ty, pos, af, gd⟩).run P w = .ok (.round l fn tmps assign body) w := by
    simp only [execOp, resolve, List.map_toArray, hm, hb.eval hg, Deferred.ofValue]
    simp [invoke, hy]
  rw [this]
  refine ⟨fun hd => absurd hd (wd_depth none), hR.mono ?_⟩
  rintro e w' ⟨v, rfl, hrun⟩
  exact hK _ _ hrun
/-- A call of yield, by what the loop promises. -/
theorem run_yieldOk {d : Nat} {ty : TypeId} {pos : String} {af : Array Edge} {gd : Option (Nat × Bool)} {gop : Operand} {l : Nat} {args : List Operand} {vs : List Value} {tys : Array TypeId} {J : Nat → HP} {Jx IT : HP} {X : Nat → List Value → Prop} {R : Nat → List Value → HP}
    (hw : wants ops β gd = some true) (hd : d < n) (hg : ev β gop = some (.func (.yield l) #[] #[])) (he : evs β args = some vs) (hy : YieldOk P ω l J Jx IT X R) (i : Nat) (hX : X i vs) (hp : Pick [J i, R i vs, IT] Γ Γ1)
    (ht : St ω n ds (J (i + 1) :: IT :: Γ1) ((d, .bool true) :: β) (Run P none ops Q rest)) (hf : St ω n ds (Jx :: Γ1) ((d, .bool false) :: β) (Run P none ops Q rest)) :
    St ω n ds Γ β (Run P none ops Q (⟨some d, .call { callee := .value gop, args := args.toArray, argTypes := tys }, ty, pos, af, gd⟩ :: rest)) := by
  refine run_yield_ hw hg he fun a w hh hb => ?_
  have h1 : Holds ω [J i, R i vs, IT, Sep Γ1] w := hh.pick hp
  obtain ⟨fn, tmps, assign, body, hyr, hR⟩ := hy (Sep Γ1) i vs w hX h1
  refine ⟨fn, tmps, assign, body, hyr, hR.mono ?_⟩
  rintro e w' (⟨rfl, h2⟩ | ⟨rfl, h2⟩)
  · have h3 : Holds ω ([J (i + 1), IT] ++ Γ1) w' := Holds.unpick h2
    exact ⟨_, rfl, ht _ _ h3 (hb.put hd _)⟩
  · have h3 : Holds ω ([Jx] ++ Γ1) w' := Holds.unpick h2
    exact ⟨_, rfl, hf _ _ h3 (hb.put hd _)⟩
/-- What holds behind a yield. -/
def yP (b : Bool) (A B : HP) : HP := match b with | true => A | false => B
theorem run_yieldB {d : Nat} {ty : TypeId} {pos : String} {af : Array Edge} {gd : Option (Nat × Bool)} {gop : Operand} {l : Nat} {args : List Operand} {vs : List Value} {tys : Array TypeId} {J : Nat → HP} {Jx IT : HP} {X : Nat → List Value → Prop} {R : Nat → List Value → HP}
    (hw : wants ops β gd = some true) (hd : d < n) (hg : ev β gop = some (.func (.yield l) #[] #[])) (he : evs β args = some vs) (hy : YieldOk P ω l J Jx IT X R) (i : Nat) (hX : X i vs) (hp : Pick [J i, R i vs, IT] Γ Γ1)
    (k : ∀ b, St ω n ds (yP b (Sep [J (i + 1), IT]) Jx :: Γ1) ((d, .bool b) :: β) (Run P none ops Q rest)) :
    St ω n ds Γ β (Run P none ops Q (⟨some d, .call { callee := .value gop, args := args.toArray, argTypes := tys }, ty, pos, af, gd⟩ :: rest)) :=
  run_yieldOk hw hd hg he hy i hX hp (St.unflat (Γ := [J (i + 1), IT]) (k true)) (k false)
/-- A function in whose body there are loops over functions. -/
def endM (P : Program) (fn : Func) (R : Ending → World → Prop) : Exit → Act → World → Prop
  | .normal, a, w => bodyPostM Fence.wide 0 P fn R .normal a w
  | .ret, a, w => bodyPostM Fence.wide 0 P fn R .ret a w
  | _, _, _ => False
theorem endM_body {fn : Func} {R : Ending → World → Prop} (e : Exit) (a : Act) (w : World) (h : endM P fn R e a w) : bodyPostM Fence.wide 0 P fn R e a w := by
  cases e <;> first | exact h | exact h.elim
theorem enterM {f : FuncId} {fn : Func} {c : Code} {vs : List Value} {R : Ending → World → Prop} {w : World} (hf : P.funcs[f]? = some fn) (hb : fn.body = some c) (hn : fn.ntmps = n) (hl : Nat.ble vs.length n = true) (hh : Holds ω Γ w)
    (h : St ω n [] Γ (argsB 0 vs) (Do P none c (endM P fn R))) : Calls P f vs.toArray w R := by
  refine (callsIn_wide (n := 0)).1 (callsIn_of_wp_marks hf hb trivial ?_)
  have hle := Nat.le_of_ble_eq_true hl
  refine wpIn_mono (h _ _ hh ⟨by simp [hn]; omega, rfl, fun k v e => ?_⟩) endM_body
  obtain ⟨_, hv⟩ := look_argsB vs 0 k v e
  have hk := (List.getElem?_eq_some_iff.1 hv).1
  simp only [Nat.sub_zero] at hv hk
  rw [Array.getElem?_append_left (by simpa using hk)]
  simpa using hv
abbrev markD (D : Nat) : Deferred := { target := .collected D, args := #[] }
abbrev markB (D : Nat) : HP := blk D (.deferred (some []))
theorem leaves_marks {fn : Func} {tmps : Array Value} {R : Ending → World → Prop} : ∀ (M : List Nat) (w : World), Holds ω (M.map markB ++ Γ0) w → (∀ w, Holds ω Γ0 w → ∃ v, (results fn tmps).run P w = .ok v w ∧ R (.returned v) w) →
    LeavesInM Fence.wide 0 P fn tmps R (M.map markD) .returning w
  | [], w, hh, h => by
    obtain ⟨v, h1, h2⟩ := h w hh
    exact ⟨v, h1, h2⟩
  | D :: M, w, hh, h => by
    have h1 : Holds ω (blk D (.deferred (some [])) :: (M.map markB ++ Γ0)) w := hh
    refine ⟨by simp, .inl ⟨D, _, rfl, run_takeDeferred (h1.block .head), ?_⟩⟩
    exact leaves_marks M _ (h1.putObj (o' := .deferred none)).drop h
theorem end_marks {fn : Func} {R : Ending → World → Prop} (M : List Nat) (hm : M.map markD = ds) (hp : Pick (M.map markB) Γ Γ0) (h : ∀ a w, Holds ω Γ0 w → Binds n ds β a → ∃ v, (results fn a.tmps).run P w = .ok v w ∧ R (.returned v) w) :
    St ω n ds Γ β (endM P fn R .ret) ∧ St ω n ds Γ β (endM P fn R .normal) := by
  have : ∀ a w, Holds ω Γ w → Binds n ds β a → LeavesInM Fence.wide 0 P fn a.tmps R a.defers .returning w := fun a w hh hb => by
    rw [hb.defers, ← hm]
    exact leaves_marks M w (hh.perm hp.perm) (fun w hw => h a w hw hb)
  exact ⟨this, this⟩
theorem do_retM0 {fn : Func} {R : Ending → World → Prop} (M : List Nat) (hm : M.map markD = ds) (hp : Pick (M.map markB) Γ Γ0) (hf : fn.results = #[]) (k : ∀ w, Holds ω Γ0 w → R (.returned (.tuple #[])) w) : St ω n ds Γ β (endM P fn R .ret) :=
  (end_marks M hm hp fun _ w hw _ => ⟨_, results_none hf _ _ _, k w hw⟩).1
theorem do_endM0 {fn : Func} {R : Ending → World → Prop} (M : List Nat) (hm : M.map markD = ds) (hp : Pick (M.map markB) Γ Γ0) (hf : fn.results = #[]) (k : ∀ w, Holds ω Γ0 w → R (.returned (.tuple #[])) w) : St ω n ds Γ β (endM P fn R .normal) :=
  (end_marks M hm hp fun _ w hw _ => ⟨_, results_none hf _ _ _, k w hw⟩).2
theorem do_retM1 {fn : Func} {R : Ending → World → Prop} {rv : ResultVar} {v : Value} (M : List Nat) (hm : M.map markD = ds) (hp : Pick (M.map markB) Γ Γ0) (hf : fn.results = #[rv]) (h : ResAt P ω n ds Γ0 β rv v) (k : ∀ w, Holds ω Γ0 w → R (.returned v) w) : St ω n ds Γ β (endM P fn R .ret) :=
  (end_marks M hm hp fun a w hw hb => ⟨_, results_1 hf (h a w hw hb), k w hw⟩).1
theorem do_retM2 {fn : Func} {R : Ending → World → Prop} {rv ru : ResultVar} {v u : Value} (M : List Nat) (hm : M.map markD = ds) (hp : Pick (M.map markB) Γ Γ0) (hf : fn.results = #[rv, ru]) (h : ResAt P ω n ds Γ0 β rv v) (h' : ResAt P ω n ds Γ0 β ru u) (k : ∀ w, Holds ω Γ0 w → R (.returned (.tuple #[v, u])) w) : St ω n ds Γ β (endM P fn R .ret) :=
  (end_marks M hm hp fun a w hw hb => ⟨_, results_2 hf (h a w hw hb) (h' a w hw hb), k w hw⟩).1
theorem do_retM3 {fn : Func} {R : Ending → World → Prop} {rv ru rt : ResultVar} {v u t : Value} (M : List Nat) (hm : M.map markD = ds) (hp : Pick (M.map markB) Γ Γ0) (hf : fn.results = #[rv, ru, rt]) (h : ResAt P ω n ds Γ0 β rv v) (h' : ResAt P ω n ds Γ0 β ru u) (h'' : ResAt P ω n ds Γ0 β rt t) (k : ∀ w, Holds ω Γ0 w → R (.returned (.tuple #[v, u, t])) w) : St ω n ds Γ β (endM P fn R .ret) :=
  (end_marks M hm hp fun a w hw hb => ⟨_, results_3 hf (h a w hw hb) (h' a w hw hb) (h'' a w hw hb), k w hw⟩).1
end
end Go.Proofs.Ytgeldfgcicjidaa
