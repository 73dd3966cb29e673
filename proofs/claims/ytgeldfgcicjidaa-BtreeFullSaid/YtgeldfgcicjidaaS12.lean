/-
  Structs that are equal, field by field: fields of numbers, truths and strings.
-/
import Derived.Laws.StructEq
import Derived.Test.YtgeldfgcicjidaaS11
namespace Go.Proofs.Ytgeldfgcicjidaa
open Go.RowKit
set_option linter.unusedSimpArgs false
set_option linter.unusedVariables false

/-- Two plain values: are they equal? -/
def primEq (P : Program) (t : TypeId) (a b : Value) : Option Bool := match P.underlying t, a, b with
  | some (.int _), .int k x, .int k' y => match decide (k = k') with
    | true => some (x == y)
    | false => none
  | some .bool, .bool x, .bool y => some (x == y)
  | some .string, .string x, .string y => some (x.toList == y.toList)
  | _, _, _ => none
def fieldsEq (P : Program) : Nat → List Field → List Value → List Value → Option Bool
  | _, [], [], [] => some true
  | i, f :: fs, a :: xs, b :: ys => match decide (f.name = "_"), Nat.beq f.offset i, primEq P f.type a b, fieldsEq P (i + 1) fs xs ys with
    | false, true, some p, some q => some (p && q)
    | _, _, _, _ => none
  | _, _, _, _ => none
def structEq (P : Program) (t : TypeId) (xs ys : List Value) : Option Bool := match P.stoodInHeld t, P.eqGuardType P.depth t, P.underlying t with
  | false, false, some (.struct fs) => fieldsEq P 0 fs.toList xs ys
  | _, _, _ => none
section
variable {P : Program}
theorem part_prim {t : TypeId} {D : TypeDesc} (hu : P.underlying t = some D) (hd : D.isRow = false) {cs : List Value} {off : Nat} {v : Value} (h : cs[off]? = some v) (w : World) : (part t cs.toArray off).run P w = .ok v w := by
  simp [part, run_isAgg_no hu hd w, h]
theorem primEq_run {t : TypeId} {a b : Value} {p : Bool} (h : primEq P t a b = some p) : ∃ D, P.underlying t = some D ∧ D.isRow = false ∧ ∀ d w, (Op.equalIn (d + 1) t a b).run P w = .ok p w := by
  unfold primEq at h
  split at h
  · rename_i k0 k x k' y hu
    split at h
    · rename_i hk
      obtain rfl := of_decide_eq_true hk
      cases h
      exact ⟨_, hu, rfl, fun d w => by simp [Op.equalIn, run_underlying hu]⟩
    · cases h
  · rename_i x y hu
    cases h
    exact ⟨_, hu, rfl, fun d w => run_equalIn_bool' w d t x y hu⟩
  · rename_i x y hu
    cases h
    exact ⟨_, hu, rfl, fun d w => run_equalIn_string w d t x y hu⟩
  · cases h
theorem fieldsEq_run {cs ds : List Value} : ∀ (fs : List Field) (i : Nat) (xs ys : List Value) (p : Bool), cs.drop i = xs → ds.drop i = ys → fieldsEq P i fs xs ys = some p → ∀ d w, (Op.eqFields (d + 1) cs.toArray ds.toArray fs).run P w = .ok p w := by
  intro fs
  induction fs with
  | nil =>
    intro i xs ys p hx hy h d w
    have : p = true := by
      cases xs <;> cases ys <;> simp [fieldsEq] at h
      exact h
    subst this
    simp [Op.eqFields]
  | cons f fs ih =>
    intro i xs ys p hx hy h d w
    match xs, ys, hx, hy, h with
    | [], _, _, _, h => cases h
    | _ :: _, [], _, _, h => cases h
    | a :: xs', b :: ys', hx, hy, h =>
      unfold fieldsEq at h
      split at h
      · rename_i q1 q2 hn ho hp hq
        cases h
        have ho' := Nat.eq_of_beq_eq_true ho
        have hn' := of_decide_eq_false hn
        obtain ⟨D, hu, hd, hr⟩ := primEq_run hp
        have ha : cs[f.offset]? = some a := by
          have := congrArg (·[0]?) hx
          simp only [List.getElem?_drop, List.getElem?_cons_zero, Nat.add_zero] at this
          rw [ho']; exact this
        have hb : ds[f.offset]? = some b := by
          have := congrArg (·[0]?) hy
          simp only [List.getElem?_drop, List.getElem?_cons_zero, Nat.add_zero] at this
          rw [ho']; exact this
        have hx1 : cs.drop (i + 1) = xs' := by rw [← List.drop_drop, hx]; rfl
        have hy1 : ds.drop (i + 1) = ys' := by rw [← List.drop_drop, hy]; rfl
        have hrest := ih (i + 1) xs' ys' q2 hx1 hy1 hq d w
        simp only [Op.eqFields, Sem.run_bind, if_pos hn', part_prim hu hd ha, part_prim hu hd hb, hr, Result.andThen_ok, hrest]
        cases q1 <;> simp [hrest]
      · cases h
variable {ω : Amb} {n : Nat} {ds : List Deferred} {Γ : List HP} {β : List (Nat × Value)} {d : Option Tmp} {t t' ty : TypeId} {pos : String} {af : Array Edge} {gd : Option (Nat × Bool)} {x y : Operand} {xs ys : List Value} {p q : Bool}
theorem structEq_run (h : structEq P t xs ys = some p) (w : World) : (Op.equalIn 10000 t (.agg xs.toArray) (.agg ys.toArray)).run P w = .ok p w ∧ P.eqGuardType P.depth t = false := by
  unfold structEq at h
  split at h
  · rename_i fs hp hg hu
    have hf : P.fieldsOf t = fs := by unfold Program.fieldsOf; rw [hu]
    refine ⟨?_, hg⟩
    rw [show (10000 : Nat) = 9999 + 1 from rfl, run_equalIn_agg w 9999 t _ _ (by rw [hf]; exact hu) hp, hf]
    exact fieldsEq_run fs.toList 0 xs ys p rfl rfl h 9998 w
  · cases h
theorem rd_struct_eq (hx : ev β x = some (.agg xs.toArray)) (hy : ev β y = some (.agg ys.toArray)) (h : structEq P t xs ys = some p) (e : p = q) : Reads P ω n ds Γ β ⟨d, .binOp .eql t x y t', ty, pos, af, gd⟩ (.bool q) := fun a w hh hb => by
  subst e
  obtain ⟨h1, h2⟩ := structEq_run h w
  simp only [execOp, hb.eval hx, hb.eval hy, Sem.run_bind, run_eqGuard_agg w .eql t x y _ _ h2, Result.andThen_ok, run_eql_struct, h1, Sem.run_pure]
theorem rd_struct_ne (hx : ev β x = some (.agg xs.toArray)) (hy : ev β y = some (.agg ys.toArray)) (h : structEq P t xs ys = some p) (e : (!p) = q) : Reads P ω n ds Γ β ⟨d, .binOp .neq t x y t', ty, pos, af, gd⟩ (.bool q) := fun a w hh hb => by
  subst e
  obtain ⟨h1, h2⟩ := structEq_run h w
  simp only [execOp, hb.eval hx, hb.eval hy, Sem.run_bind, run_eqGuard_agg w .neq t x y _ _ h2, Result.andThen_ok, run_neq_struct, h1, Sem.run_pure]
end
section
variable {P : Program} {ω : Amb} {n : Nat} {ds : List Deferred} {Γ : List HP} {β : List (Nat × Value)} {r : Option Nat} {Q : Exit → Act → World → Prop}
/-- A piece of code at the end of a block by what holds behind it. -/
theorem do_cutQ {c : Code} {α : Sort _} (φ : α → Prop) (β' : α → List (Nat × Value)) (Γ' : α → List HP)
    (h : ∀ K : Act → World → Prop, (∀ x, φ x → St ω n ds (Γ' x) (β' x) K) → St ω n ds Γ β (Do P r c (Exit.then K Q))) (k : ∀ x, φ x → St ω n ds (Γ' x) (β' x) (Q .normal)) : St ω n ds Γ β (Do P r c Q) := by
  have e : Exit.then (Q .normal) Q = Q := by funext e; cases e <;> rfl
  have := h (Q .normal) k
  rwa [e] at this
end
end Go.Proofs.Ytgeldfgcicjidaa
