/-
  Operations, step by step, in states known by their parts: what only reads.
-/
import Derived.Test.YtgeldfgcicjidaaS1
namespace Go.Proofs.Ytgeldfgcicjidaa
open Go.RowKit
set_option linter.unusedSimpArgs false
set_option linter.unusedVariables false

/-- A fence that lets everything through; r: the round in whose frame the code runs. -/
def wd (r : Option Nat) : Fence := { Fence.wide with round := r }
/-- Operations of a region, one behind the other. -/
def Run (P : Program) (r : Option Nat) (ops : Array Oper) (Q : Exit → Act → World → Prop) (l : List Oper) : Act → World → Prop := wpListIn (wd r) 0 P ops Q l
/-- Code. -/
def Do (P : Program) (r : Option Nat) (c : Code) (Q : Exit → Act → World → Prop) : Act → World → Prop := c.wpIn (wd r) 0 P Q
theorem wd_fn (r : Option Nat) (f : FuncId) : (wd r).fn f := trivial
theorem wd_room (r : Option Nat) (n : Nat) : (wd r).room n := fun _ h => by simp [wd, Fence.wide] at h
theorem wd_depth (r : Option Nat) : ¬ ((wd r).depth.isSome = true) := by simp [wd, Fence.wide]
theorem wd_round (r : Option Nat) : (wd r).round = r := rfl

section
variable {P : Program} {ω : Amb} {n : Nat} {ds : List Deferred} {Γ Γ' : List HP} {β : List (Nat × Value)} {r : Option Nat} {ops : Array Oper} {Q : Exit → Act → World → Prop} {rest : List Oper} {o : Oper}

/-- An operation that yields a value, whatever state of this kind, and turns nothing. -/
def Reads (P : Program) (ω : Amb) (n : Nat) (ds : List Deferred) (Γ : List HP) (β : List (Nat × Value)) (o : Oper) (v : Value) : Prop :=
  ∀ a w, Holds ω Γ w → Binds n ds β a → (execOp a.eval o).run P w = .ok (.value v) w

/-- Is the operation carried out? By what its guard is. -/
def wants (ops : Array Oper) (β : List (Nat × Value)) : Option (Nat × Bool) → Option Bool
  | none => some true
  | some (j, b) => match (ops[j]?).bind (·.dst) with
    | some d => match look β d with
      | some (.bool c) => some (c == b)
      | some (.tuple _) => some false
      | _ => none
    | none => none
theorem wanted_of {ops : Array Oper} {a : Act} {o : Oper} {b : Bool} (hb : Binds n ds β a) (h : wants ops β o.guard = some b) : Region.wanted o (yielded ops a.tmps) = b := by
  unfold wants at h
  unfold Region.wanted
  cases hg : o.guard with
  | none => rw [hg] at h; simpa using h
  | some p =>
    obtain ⟨j, c⟩ := p
    rw [hg] at h
    simp only at h ⊢
    split at h
    · rename_i d hd
      split at h
      · rename_i c' hl
        have hl' := hb.get _ _ hl
        cases h
        simp only [yielded, hd, Option.bind_some, hl']
        cases c <;> cases c' <;> rfl
      · rename_i x hl
        have hl' := hb.get _ _ hl
        cases h
        simp only [yielded, hd, Option.bind_some, hl']
        rfl
      · cases h
    · cases h
theorem run_skip (hd : (match o.dst with | some d => decide (d < n) && (look β d).isNone | none => true) = true) (hw : wants ops β o.guard = some false) (k : St ω n ds Γ (match o.dst with | some d => (d, undef) :: β | none => β) (Run P r ops Q rest)) : St ω n ds Γ β (Run P r ops Q (o :: rest)) := by
  intro a w hh hb
  unfold Run wpListIn
  rw [if_neg (by rw [wanted_of hb hw]; simp)]
  refine ⟨fun _ _ => trivial, k _ _ hh ?_⟩
  cases hdd : o.dst with
  | none => exact hb
  | some d =>
    rw [hdd] at hd
    simp only [Bool.and_eq_true, decide_eq_true_eq] at hd
    exact hb.put hd.1 undef
theorem run_read {d : Nat} {v : Value} {op : Op} {ty : TypeId} {pos : String} {af : Array Edge} {gd : Option (Nat × Bool)} (hw : wants ops β gd = some true) (hd : d < n) (hop : ∀ c, op ≠ .defer c)
    (h : Reads P ω n ds Γ β ⟨some d, op, ty, pos, af, gd⟩ v) (k : St ω n ds Γ ((d, v) :: β) (Run P r ops Q rest)) : St ω n ds Γ β (Run P r ops Q (⟨some d, op, ty, pos, af, gd⟩ :: rest)) := by
  intro a w hh hb
  exact wpListIn_ran (fun f => wd_fn r f) (wanted_of hb hw) ⟨hop, .inl ⟨v, h a w hh hb, rfl⟩⟩ (k _ _ hh (hb.put hd v))
theorem run_nil (h : St ω n ds Γ β (Q .normal)) : St ω n ds Γ β (Run P r ops Q []) := h

section
variable {d : Option Tmp} {ty : TypeId} {pos : String} {af : Array Edge} {gd : Option (Nat × Bool)} {x y : Operand} {v u : Value}
theorem rd_move (h : ev β x = some v) : Reads P ω n ds Γ β ⟨d, .move x, ty, pos, af, gd⟩ v := fun a w hh hb => by simp [execOp, hb.eval h]
theorem rd_assign (h : ev β x = some v) : Reads P ω n ds Γ β ⟨d, .assign x, ty, pos, af, gd⟩ v := fun a w hh hb => by simp [execOp, hb.eval h]
theorem rd_pick_t {c : Operand} (hc : ev β c = some (.bool true)) (h : ev β x = some v) : Reads P ω n ds Γ β ⟨d, .pick c x y, ty, pos, af, gd⟩ v := fun a w hh hb => by simp [execOp, hb.eval hc, hb.eval h, asBool]
theorem rd_pick_f {c : Operand} (hc : ev β c = some (.bool false)) (h : ev β y = some v) : Reads P ω n ds Γ β ⟨d, .pick c x y, ty, pos, af, gd⟩ v := fun a w hh hb => by simp [execOp, hb.eval hc, hb.eval h, asBool]
theorem rd_extract {vs : List Value} {i : Nat} (hx : ev β x = some (.tuple vs.toArray)) (h : vs[i]? = some v) : Reads P ω n ds Γ β ⟨d, .extract x i, ty, pos, af, gd⟩ v := fun a w hh hb => by simp [execOp, hb.eval hx, Instr.extract, h]
theorem rd_nilCheck {ad : Addr} (hx : ev β x = some (.pointer (some ad))) : Reads P ω n ds Γ β ⟨d, .nilCheck x, ty, pos, af, gd⟩ (.pointer (some ad)) := fun a w hh hb => by simp [execOp, hb.eval hx]
-- numbers
theorem rd_add {kk : IntKind} {i j : Int} {t t' : TypeId} (hx : ev β x = some (.int kk i)) (hy : ev β y = some (.int kk j)) : Reads P ω n ds Γ β ⟨d, .binOp .add t x y t', ty, pos, af, gd⟩ (.int kk (kk.wrap (i + j))) := fun a w hh hb => by
  simp [execOp, hb.eval hx, hb.eval hy, eqGuard, binOp, Op.intArith]
theorem rd_sub {kk : IntKind} {i j : Int} {t t' : TypeId} (hx : ev β x = some (.int kk i)) (hy : ev β y = some (.int kk j)) : Reads P ω n ds Γ β ⟨d, .binOp .sub t x y t', ty, pos, af, gd⟩ (.int kk (kk.wrap (i - j))) := fun a w hh hb => by
  simp [execOp, hb.eval hx, hb.eval hy, eqGuard, binOp, Op.intArith]
theorem rd_mul {kk : IntKind} {i j : Int} {t t' : TypeId} (hx : ev β x = some (.int kk i)) (hy : ev β y = some (.int kk j)) : Reads P ω n ds Γ β ⟨d, .binOp .mul t x y t', ty, pos, af, gd⟩ (.int kk (kk.wrap (i * j))) := fun a w hh hb => by
  simp [execOp, hb.eval hx, hb.eval hy, eqGuard, binOp, Op.intArith]
theorem rd_quo {kk : IntKind} {i j : Int} {t t' : TypeId} (hj : j ≠ 0) (hx : ev β x = some (.int kk i)) (hy : ev β y = some (.int kk j)) : Reads P ω n ds Γ β ⟨d, .binOp .quo t x y t', ty, pos, af, gd⟩ (.int kk (kk.wrap (i.tdiv j))) := fun a w hh hb => by
  simp [execOp, hb.eval hx, hb.eval hy, eqGuard, binOp, Op.intDiv, hj]
theorem rd_rem {kk : IntKind} {i j : Int} {t t' : TypeId} (hj : j ≠ 0) (hx : ev β x = some (.int kk i)) (hy : ev β y = some (.int kk j)) : Reads P ω n ds Γ β ⟨d, .binOp .rem t x y t', ty, pos, af, gd⟩ (.int kk (i.tmod j)) := fun a w hh hb => by
  simp [execOp, hb.eval hx, hb.eval hy, eqGuard, binOp, Op.intDiv, hj]
theorem rd_and {kk : IntKind} {i j : Int} {t t' : TypeId} (hx : ev β x = some (.int kk i)) (hy : ev β y = some (.int kk j)) : Reads P ω n ds Γ β ⟨d, .binOp .and t x y t', ty, pos, af, gd⟩ (.int kk (kk.wrap (BitVec.ofInt kk.bits i &&& BitVec.ofInt kk.bits j).toNat)) := fun a w hh hb => by
  simp [execOp, hb.eval hx, hb.eval hy, eqGuard, binOp, Op.intBits]
theorem rd_or {kk : IntKind} {i j : Int} {t t' : TypeId} (hx : ev β x = some (.int kk i)) (hy : ev β y = some (.int kk j)) : Reads P ω n ds Γ β ⟨d, .binOp .or t x y t', ty, pos, af, gd⟩ (.int kk (kk.wrap (BitVec.ofInt kk.bits i ||| BitVec.ofInt kk.bits j).toNat)) := fun a w hh hb => by
  simp [execOp, hb.eval hx, hb.eval hy, eqGuard, binOp, Op.intBits]
theorem rd_xor {kk : IntKind} {i j : Int} {t t' : TypeId} (hx : ev β x = some (.int kk i)) (hy : ev β y = some (.int kk j)) : Reads P ω n ds Γ β ⟨d, .binOp .xor t x y t', ty, pos, af, gd⟩ (.int kk (kk.wrap (BitVec.ofInt kk.bits i ^^^ BitVec.ofInt kk.bits j).toNat)) := fun a w hh hb => by
  simp [execOp, hb.eval hx, hb.eval hy, eqGuard, binOp, Op.intBits]
theorem rd_shl {kk kj : IntKind} {i j : Int} {t t' : TypeId} (hj : 0 ≤ j) (hx : ev β x = some (.int kk i)) (hy : ev β y = some (.int kj j)) : Reads P ω n ds Γ β ⟨d, .binOp .shl t x y t', ty, pos, af, gd⟩ (.int kk (kk.wrap (i * 2 ^ (min j.toNat kk.bits)))) := fun a w hh hb => by
  simp [execOp, hb.eval hx, hb.eval hy, eqGuard, binOp, Op.shift, Int.not_lt.2 hj]
theorem rd_shr {kk kj : IntKind} {i j : Int} {t t' : TypeId} (hj : 0 ≤ j) (hx : ev β x = some (.int kk i)) (hy : ev β y = some (.int kj j)) : Reads P ω n ds Γ β ⟨d, .binOp .shr t x y t', ty, pos, af, gd⟩ (.int kk (i.fdiv (2 ^ (min j.toNat kk.bits)))) := fun a w hh hb => by
  simp [execOp, hb.eval hx, hb.eval hy, eqGuard, binOp, Op.shift, Int.not_lt.2 hj]
theorem rd_eq {kk : IntKind} {i j : Int} {t t' : TypeId} (hx : ev β x = some (.int kk i)) (hy : ev β y = some (.int kk j)) : Reads P ω n ds Γ β ⟨d, .binOp .eql t x y t', ty, pos, af, gd⟩ (.bool (decide (i = j))) := fun a w hh hb => by
  simp [execOp, hb.eval hx, hb.eval hy, eqGuard, binOp, Op.intCmp]; first | done | (rw [Bool.eq_iff_iff]; simp)
theorem rd_ne {kk : IntKind} {i j : Int} {t t' : TypeId} (hx : ev β x = some (.int kk i)) (hy : ev β y = some (.int kk j)) : Reads P ω n ds Γ β ⟨d, .binOp .neq t x y t', ty, pos, af, gd⟩ (.bool (decide (i ≠ j))) := fun a w hh hb => by
  simp [execOp, hb.eval hx, hb.eval hy, eqGuard, binOp, Op.intCmp]; first | done | (rw [Bool.eq_iff_iff]; simp)
theorem rd_lt {kk : IntKind} {i j : Int} {t t' : TypeId} (hx : ev β x = some (.int kk i)) (hy : ev β y = some (.int kk j)) : Reads P ω n ds Γ β ⟨d, .binOp .lss t x y t', ty, pos, af, gd⟩ (.bool (decide (i < j))) := fun a w hh hb => by
  simp [execOp, hb.eval hx, hb.eval hy, eqGuard, binOp, Op.intCmp]
theorem rd_le {kk : IntKind} {i j : Int} {t t' : TypeId} (hx : ev β x = some (.int kk i)) (hy : ev β y = some (.int kk j)) : Reads P ω n ds Γ β ⟨d, .binOp .leq t x y t', ty, pos, af, gd⟩ (.bool (decide (i ≤ j))) := fun a w hh hb => by
  simp [execOp, hb.eval hx, hb.eval hy, eqGuard, binOp, Op.intCmp]
theorem rd_gt {kk : IntKind} {i j : Int} {t t' : TypeId} (hx : ev β x = some (.int kk i)) (hy : ev β y = some (.int kk j)) : Reads P ω n ds Γ β ⟨d, .binOp .gtr t x y t', ty, pos, af, gd⟩ (.bool (decide (j < i))) := fun a w hh hb => by
  simp [execOp, hb.eval hx, hb.eval hy, eqGuard, binOp, Op.intCmp]
theorem rd_ge {kk : IntKind} {i j : Int} {t t' : TypeId} (hx : ev β x = some (.int kk i)) (hy : ev β y = some (.int kk j)) : Reads P ω n ds Γ β ⟨d, .binOp .geq t x y t', ty, pos, af, gd⟩ (.bool (decide (j ≤ i))) := fun a w hh hb => by
  simp [execOp, hb.eval hx, hb.eval hy, eqGuard, binOp, Op.intCmp]
theorem rd_neg {kk : IntKind} {i : Int} {t : TypeId} (hx : ev β x = some (.int kk i)) : Reads P ω n ds Γ β ⟨d, .unOp .neg t x, ty, pos, af, gd⟩ (.int kk (kk.wrap (0 - i))) := fun a w hh hb => by
  simp [execOp, hb.eval hx, Op.unary, Op.intArith]
theorem rd_not {b : Bool} {t : TypeId} (hx : ev β x = some (.bool b)) : Reads P ω n ds Γ β ⟨d, .unOp .not t x, ty, pos, af, gd⟩ (.bool !b) := fun a w hh hb => by
  simp [execOp, hb.eval hx, Op.unary]
/-- A number's kind, turned. -/
theorem rd_conv {kk kj : IntKind} {i : Int} {s t : TypeId} {D : TypeDesc} (hs : P.underlying s = some D) (ht : P.underlying t = some (.int kj)) (hx : ev β x = some (.int kk i)) : Reads P ω n ds Γ β ⟨d, .convert s t x, ty, pos, af, gd⟩ (.int kj (kj.wrap i)) := fun a w hh hb => by
  simp [execOp, hb.eval hx, convert, run_underlying hs, run_underlying ht, Conv.intToInt]
-- a value is another one
theorem rd_val {i j : Value} (hx : ev β x = some i) (he : i = j) : Reads P ω n ds Γ β ⟨d, .move x, ty, pos, af, gd⟩ j := by subst he; exact rd_move hx
theorem Reads.eq (h : Reads P ω n ds Γ β o u) (e : u = v) : Reads P ω n ds Γ β o v := e ▸ h
end
end
end Go.Proofs.Ytgeldfgcicjidaa
