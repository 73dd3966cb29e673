/-
  Keys in order; items; a node as bytes.
-/
import Derived.Lib.Bytealg
import Derived.Laws.Externs
import Derived.Test.YtgeldfgcicjidaaB7
namespace Go.Proofs.Ytgeldfgcicjidaa
open Go.RowKit
set_option linter.unusedSimpArgs false
set_option linter.unusedVariables false

/-- What comparing two texts tells. -/
abbrev cmpB (a b : List UInt8) : Int := Go.Lib.compareBytes a b
theorem cmpB_cons (a b : UInt8) (l m : List UInt8) : cmpB (a :: l) (b :: m) = if a < b then -1 else if b < a then 1 else cmpB l m := by simp [cmpB, Go.Lib.compareBytes]
theorem cmpB_trans : ∀ a b c : List UInt8, cmpB a b < 0 → cmpB b c < 0 → cmpB a c < 0
  | [], _, [], h1, h2 => by
    rename_i b
    cases b with
    | nil => exact h1
    | cons y b => simp [cmpB, Go.Lib.compareBytes] at h2
  | [], _, _ :: _, _, _ => by simp [cmpB, Go.Lib.compareBytes]
  | _ :: _, [], _, h1, _ => by simp [cmpB, Go.Lib.compareBytes] at h1
  | _ :: _, _ :: _, [], _, h2 => by simp [cmpB, Go.Lib.compareBytes] at h2
  | x :: a, y :: b, z :: c, h1, h2 => by
    rw [cmpB_cons] at h1 h2 ⊢
    have ih := cmpB_trans a b c
    simp only [UInt8.lt_iff_toNat_lt] at *
    repeat' split at h1
    all_goals (repeat' split at h2)
    all_goals (repeat' split)
    all_goals first
      | omega
      | exact ih h1 h2
theorem cmpB_swap : ∀ a b : List UInt8, cmpB a b = - cmpB b a
  | [], [] => rfl
  | [], _ :: _ => by simp [cmpB, Go.Lib.compareBytes]
  | _ :: _, [] => by simp [cmpB, Go.Lib.compareBytes]
  | x :: a, y :: b => by
    rw [cmpB_cons, cmpB_cons]
    have ih := cmpB_swap a b
    simp only [UInt8.lt_iff_toNat_lt]
    repeat' split
    all_goals omega
theorem cmpB_eq : ∀ a b : List UInt8, cmpB a b = 0 → a = b
  | [], [], _ => rfl
  | [], _ :: _, h => by simp [cmpB, Go.Lib.compareBytes] at h
  | _ :: _, [], h => by simp [cmpB, Go.Lib.compareBytes] at h
  | x :: a, y :: b, h => by
    rw [cmpB_cons] at h
    have ih := cmpB_eq a b
    simp only [UInt8.lt_iff_toNat_lt] at h
    split at h
    · omega
    · split at h
      · omega
      · rw [ih h, show x = y from UInt8.toNat_inj.1 (by omega)]
theorem cmpB_self (a : List UInt8) : cmpB a a = 0 := by have := cmpB_swap a a; omega
section
variable {P : Program} {ω : Amb} {n : Nat} {ds : List Deferred} {Γ : List HP} {β : List (Nat × Value)} {d : Option Tmp} {ty : TypeId} {pos : String} {af : Array Edge} {gd : Option (Nat × Bool)}
/-- A call of a function that the model gives. -/
theorem rd_ext {f : FuncId} {fn : Func} {e : Array Value → Sem Value} {l : List Operand} {vs : List Value} {v : Value} {tys : Array TypeId} (hf : P.funcs[f]? = some fn) (hname : (fn.name == "runtime.NumGoroutine") = false)
    (hb : fn.body.isNone = true) (hn : Extern.findNext fn = none) (he : Extern.find fn = some e) (hl : evs β l = some vs) (hr : ∀ w, (e vs.toArray).run P w = .ok v w) :
    Reads P ω n ds Γ β ⟨d, .call { callee := .value (.func f), args := l.toArray, argTypes := tys }, ty, pos, af, gd⟩ v := fun a w hh hb' => by
  have hm := evs_map hb' l vs hl
  have h1 := run_callFunc_extern (P := P) hf hname hb hn he vs.toArray w
  rw [hr] at h1
  simp only [execOp, resolve, List.map_toArray, hm, Act.eval, Deferred.ofValue]
  simp [invoke, h1]
end
theorem cmpStr_spec (F : HP) (a b : List UInt8) : Spec Try.prog 95 [.string (strOf a), .string (strOf b)] [] F (fun _ : Unit => True) (fun _ => .int .i64 (cmpB a b)) (fun _ => []) := by
  intro ω w hh
  refine enter Try.func95 rfl Try.ntmps95 rfl hh ?_
  simp only [List.nil_append, argsB]
  refine sr ?_
  refine rr (rd_assign rfl) ?_
  refine nx ?_
  refine sr ?_
  refine rr (rd_move rfl) ?_
  refine rr (rd_move rfl) ?_
  refine rr (rd_ext (v := .int .i64 (cmpB a b)) Try.func97 (by kernel_rfl) (by kernel_rfl) (by kernel_rfl) (e := Extern.BytealgCompare.compare) (by kernel_rfl) rfl (fun w => by
  have h := Go.Lib.run_compareString (P := Try.prog) (strOf a) (strOf b) w
  exact h)) ?_
  refine rr (rd_assign rfl) ?_
  refine run_nil ?_
  refine St.kp [(4, _)] ?_
  refine St.then_n ?_
  refine do_ret ?_
  refine do_ret1 Try.results95 (res_tmp rfl) ?_
  intro w hw
  exact ⟨(), trivial, rfl, hw⟩
theorem compare_spec (F : HP) (a b : List UInt8) : Spec Try.prog 84 [.string (strOf a), .string (strOf b)] [] F (fun _ : Unit => True) (fun _ => .int .i64 (cmpB a b)) (fun _ => []) := by
  intro ω w hh
  refine enter Try.func84 rfl Try.ntmps84 rfl hh ?_
  simp only [List.nil_append, argsB]
  refine sr ?_
  refine rr (rd_assign rfl) ?_
  refine nx ?_
  refine sr ?_
  refine rr (rd_move rfl) ?_
  refine rr (rd_move rfl) ?_
  refine rc (hs := cmpStr_spec _ a b) (k := ?_)
  rintro ⟨⟩ -
  try simp only [List.cons_append, List.nil_append]
  refine rr (rd_assign rfl) ?_
  refine run_nil ?_
  refine St.kp [(4, _)] ?_
  refine St.then_n ?_
  refine do_ret ?_
  refine do_ret1 Try.results84 (res_tmp rfl) ?_
  intro w hw
  exact ⟨(), trivial, rfl, hw⟩
theorem less_cmp : ∀ a b : List UInt8, Op.bytesLess a b = decide (cmpB a b < 0)
  | [], [] => by simp [Op.bytesLess, cmpB, Go.Lib.compareBytes]
  | _ :: _, [] => by simp [Op.bytesLess, cmpB, Go.Lib.compareBytes]
  | [], _ :: _ => by simp [Op.bytesLess, cmpB, Go.Lib.compareBytes]
  | x :: a, y :: b => by
    rw [Op.bytesLess, cmpB_cons, less_cmp a b]
    by_cases h : x < y
    · simp [h]
    · rw [if_neg h]
      by_cases h2 : y < x
      · have h3 : (x == y) = false := by
          rw [beq_eq_false_iff_ne]; rintro rfl; exact h h2
        simp [h, h2, h3]
      · have h3 : x = y := by
          rw [UInt8.lt_iff_toNat_lt] at h h2
          exact UInt8.toNat_inj.1 (by omega)
        simp [h3]
section
variable {P : Program} {ω : Amb} {m : Nat} {ds : List Deferred} {Γ : List HP} {β : List (Nat × Value)} {x y : Operand} {t t' ty : TypeId} {pos : String} {af : Array Edge} {gd : Option (Nat × Bool)}
theorem rd_str_lss {d : Option Tmp} {a b : List UInt8} (hx : ev β x = some (.string (strOf a))) (hy : ev β y = some (.string (strOf b))) : Reads P ω m ds Γ β ⟨d, .binOp .lss t x y t', ty, pos, af, gd⟩ (.bool (decide (cmpB a b < 0))) := fun _ w hh hb => by
  simp [execOp, hb.eval hx, hb.eval hy, eqGuard, binOp, Op.stringOp]
  have := less_cmp a b
  exact this
theorem rd_str_gtr {d : Option Tmp} {a b : List UInt8} (hx : ev β x = some (.string (strOf a))) (hy : ev β y = some (.string (strOf b))) : Reads P ω m ds Γ β ⟨d, .binOp .gtr t x y t', ty, pos, af, gd⟩ (.bool (decide (cmpB b a < 0))) := fun _ w hh hb => by
  simp [execOp, hb.eval hx, hb.eval hy, eqGuard, binOp, Op.stringOp]
  have h1 := less_cmp a b
  have h2 := cmpB_swap a b
  have h3 := cmpB_eq a b
  have h4 := cmpB_self a
  rw [h1, Bool.eq_iff_iff]
  simp
  constructor
  · rintro ⟨q1, q2⟩
    have : cmpB a b ≠ 0 := fun h => q2 (h3 h)
    omega
  · intro q
    refine ⟨by omega, ?_⟩
    rintro rfl
    omega
end
theorem cmpB_range : ∀ a b : List UInt8, cmpB a b = -1 ∨ cmpB a b = 0 ∨ cmpB a b = 1
  | [], [] => .inr (.inl rfl)
  | [], _ :: _ => .inl (by simp [cmpB, Go.Lib.compareBytes])
  | _ :: _, [] => .inr (.inr (by simp [cmpB, Go.Lib.compareBytes]))
  | x :: a, y :: b => by
    rw [cmpB_cons]
    split
    · exact .inl rfl
    · split
      · exact .inr (.inr rfl)
      · exact cmpB_range a b
section
variable {P : Program} {ω : Amb} {m : Nat} {ds : List Deferred} {Γ : List HP} {β : List (Nat × Value)} {x y : Operand} {t t' ty : TypeId} {pos : String} {af : Array Edge} {gd : Option (Nat × Bool)}
theorem rd_str_geq {d : Option Tmp} {a b : List UInt8} (hx : ev β x = some (.string (strOf a))) (hy : ev β y = some (.string (strOf b))) : Reads P ω m ds Γ β ⟨d, .binOp .geq t x y t', ty, pos, af, gd⟩ (.bool (decide (0 ≤ cmpB a b))) := fun _ w hh hb => by
  simp [execOp, hb.eval hx, hb.eval hy, eqGuard, binOp, Op.stringOp]
  have h1 := less_cmp a b
  rw [h1, Bool.eq_iff_iff]
  simp
theorem rd_str_leq {d : Option Tmp} {a b : List UInt8} (hx : ev β x = some (.string (strOf a))) (hy : ev β y = some (.string (strOf b))) : Reads P ω m ds Γ β ⟨d, .binOp .leq t x y t', ty, pos, af, gd⟩ (.bool (decide (cmpB a b ≤ 0))) := fun _ w hh hb => by
  simp [execOp, hb.eval hx, hb.eval hy, eqGuard, binOp, Op.stringOp]
  have h1 := less_cmp a b
  have h3 := cmpB_eq a b
  rw [h1, Bool.eq_iff_iff]
  simp
  constructor
  · rintro (q | rfl)
    · omega
    · have := cmpB_self a; omega
  · intro q
    rcases Int.lt_or_eq_of_le q with q | q
    · exact .inl q
    · exact .inr (h3 q)
end
theorem cmpB_lt_asymm {a b : List UInt8} (h : cmpB a b < 0) : ¬ cmpB b a < 0 := by have := cmpB_swap a b; omega
theorem isNaN_spec (F : HP) (a : List UInt8) : Spec Try.prog 81 [.string (strOf a)] [] F (fun _ : Unit => True) (fun _ => .bool false) (fun _ => []) := by
  intro ω w hh
  refine enter Try.func81 rfl Try.ntmps81 rfl hh ?_
  simp only [List.nil_append, argsB]
  refine sr ?_
  refine rr (rd_assign rfl) ?_
  refine nx ?_
  refine sr ?_
  refine rr (rd_move rfl) ?_
  refine rr (rd_move rfl) ?_
  refine rr ((rd_str_neq rfl rfl).eq (show _ = Value.bool false by simp)) ?_
  refine rr (rd_assign rfl) ?_
  refine run_nil ?_
  refine St.kp [(2, _)] ?_
  refine St.then_n ?_
  refine do_ret ?_
  refine do_ret1 Try.results81 (res_tmp rfl) ?_
  intro w hw
  exact ⟨(), trivial, rfl, hw⟩
theorem cmpStr2_spec (F : HP) (a b : List UInt8) : Spec Try.prog 61 [.string (strOf a), .string (strOf b)] [] F (fun _ : Unit => True) (fun _ => .int .i64 (cmpB a b)) (fun _ => []) := by
  intro ω w hh
  refine enter Try.func61 rfl Try.ntmps61 rfl hh ?_
  simp only [List.nil_append, argsB]
  have hsw := cmpB_swap a b
  have hr := cmpB_range a b
  refine sr ?_
  refine rr (rd_assign rfl) ?_
  refine nx ?_
  refine sr ?_
  refine rr (rd_move rfl) ?_
  refine rc (hs := isNaN_spec _ a) (k := ?_)
  rintro ⟨⟩ -
  try simp only [List.cons_append, List.nil_append]
  refine rr (rd_assign rfl) ?_
  refine nx ?_
  refine sr ?_
  refine rr (rd_move rfl) ?_
  refine rc (hs := isNaN_spec _ b) (k := ?_)
  rintro ⟨⟩ -
  try simp only [List.cons_append, List.nil_append]
  refine rr (rd_assign rfl) ?_
  refine run_nil ?_
  refine St.kp [(0, _), (1, _), (5, _), (6, _)] ?_
  refine St.then_n ?_
  refine do_seq ?_
  refine sr ?_
  refine rr (rd_move rfl) ?_
  refine nx ?_
  refine do_cond_f rfl ?_
  refine do_skip ?_
  refine St.then_n ?_
  refine do_seq ?_
  refine sr ?_
  refine rr (rd_move rfl) ?_
  refine nx ?_
  refine do_cond_f rfl ?_
  refine do_skip ?_
  refine St.then_n ?_
  refine do_seq ?_
  refine sr ?_
  refine rr (rd_move rfl) ?_
  refine rr (rd_move rfl) ?_
  refine rr (rd_str_lss rfl rfl) ?_
  refine run_nil ?_
  refine St.kp [(0, _), (1, _), (16, _)] ?_
  refine St.then_n ?_
  first | refine do_condp rfl (fun h16 => ?_) (fun h16 => ?_) | refine do_cond rfl (fun h16 => ?_) (fun h16 => ?_)
  · refine sr ?_
    refine rr (rd_assign rfl) ?_
    refine nx ?_
    refine do_ret ?_
    refine St.then_r ?_
    refine do_ret1 Try.results61 (res_tmp rfl) ?_
    intro w hw
    exact ⟨(), trivial, by rw [show cmpB a b = -1 by omega], hw⟩
  · refine do_skip ?_
    refine St.then_n ?_
    refine do_seq ?_
    refine sr ?_
    refine rr (rd_move rfl) ?_
    refine rr (rd_move rfl) ?_
    refine rr (rd_str_gtr rfl rfl) ?_
    refine run_nil ?_
    refine St.kp [(19, _)] ?_
    refine St.then_n ?_
    first | refine do_condp rfl (fun h19 => ?_) (fun h19 => ?_) | refine do_cond rfl (fun h19 => ?_) (fun h19 => ?_)
    · refine sr ?_
      refine rr (rd_assign rfl) ?_
      refine nx ?_
      refine do_ret ?_
      refine St.then_r ?_
      refine do_ret1 Try.results61 (res_tmp rfl) ?_
      intro w hw
      exact ⟨(), trivial, by rw [show cmpB a b = 1 by omega], hw⟩
    · refine do_skip ?_
      refine St.then_n ?_
      refine sr ?_
      refine rr (rd_assign rfl) ?_
      refine nx ?_
      refine do_ret ?_
      refine do_ret1 Try.results61 (res_tmp rfl) ?_
      intro w hw
      exact ⟨(), trivial, by rw [show cmpB a b = 0 by omega], hw⟩
/-- A key, with a value, or with a page below. -/
structure It where
  k : List UInt8
  b : List UInt8
  c : Nat
/-- An item in memory. -/
structure Im where
  k : List UInt8
  A : Option Addr
  cp : Nat
  b : List UInt8
  c : Nat
abbrev Im.v (x : Im) : Value := .slice x.A x.b.length x.cp
abbrev Im.p (x : Im) : It := ⟨x.k, x.b, x.c⟩
def imC (x : Im) : List Value := [.string (strOf x.k), x.v, .int .i64 x.c]
theorem imC_len (x : Im) : (imC x).length = 3 := rfl
theorem imC_one (x : Im) : (imC x).all (·.oneCell') = true := rfl
/-- The items' values can be read. -/
def okV (F : HP) (l : List Im) : Prop := ∀ x ∈ l, VwB F x.v x.b
theorem okV.sep {X : HP} {l : List Im} {Γ Γ' : List HP} (h : okV X l) (p : Sel X Γ Γ') : okV (Sep Γ) l := fun x hx => Vw.sep (h x hx) p
structure It.ok (x : It) : Prop where
  k1 : 1 ≤ x.k.length
  k24 : x.k.length ≤ 24
  b80 : x.b.length ≤ 80
  c4 : x.c < 4096
def kindN (leaf : Bool) : Nat := match leaf with | true => 1 | false => 2
def encI (leaf : Bool) (x : It) : List UInt8 := txt x.k ++ match leaf with | true => txt x.b | false => uvar x.c
def encN (leaf : Bool) (l : List It) : List UInt8 := uvar (kindN leaf) ++ (uvar l.length ++ l.flatMap (encI leaf))
def sizeI (leaf : Bool) (x : It) : Nat := match leaf with | true => 2 + x.k.length + x.b.length | false => 3 + x.k.length
def sizeN (leaf : Bool) (l : List It) : Nat := (l.map (sizeI leaf)).sum
theorem encI_len {leaf : Bool} {x : It} (h : x.ok) : (encI leaf x).length ≤ sizeI leaf x := by
  obtain ⟨h1, h2, h3, h4⟩ := h
  unfold encI sizeI txt
  cases leaf
  · have := uvar_len x.c 2 (by omega) (by decide)
    rw [uvar_small (n := x.k.length) (by omega)]
    simp only [List.length_append, List.length_cons, List.length_nil]; omega
  · rw [uvar_small (n := x.k.length) (by omega), uvar_small (n := x.b.length) (by omega)]
    simp only [List.length_append, List.length_cons, List.length_nil]; omega
theorem encs_len {leaf : Bool} : ∀ {l : List It}, (∀ x ∈ l, x.ok) → (l.flatMap (encI leaf)).length ≤ sizeN leaf l
  | [], _ => by simp
  | x :: l, h => by
    have := encs_len (leaf := leaf) (l := l) (fun y hy => h y (List.mem_cons_of_mem _ hy))
    have := encI_len (leaf := leaf) (h x List.mem_cons_self)
    unfold sizeN at *
    rw [List.flatMap_cons, List.length_append, List.map_cons, List.sum_cons]; omega
theorem encN_len {leaf : Bool} {l : List It} (h : ∀ x ∈ l, x.ok) (hl : l.length ≤ 64) : (encN leaf l).length ≤ 2 + sizeN leaf l := by
  have := encs_len (leaf := leaf) h
  unfold encN
  rw [uvar_small (n := kindN leaf) (by cases leaf <;> decide), uvar_small (n := l.length) (by omega)]
  simp only [List.length_append, List.length_cons, List.length_nil]; omega
theorem rightPair_spec (F : HP) (k : List UInt8) (A : Option Addr) (n c : Nat) (hk : k.length ≤ 9223372036854775807) (hn : n ≤ 9223372036854775807) : Spec Try.prog 25 [.string (strOf k), .slice A n c] [] F (fun _ : Unit => True) (fun _ => .bool (decide (0 < k.length ∧ k.length ≤ 24 ∧ n ≤ 80))) (fun _ => []) := by
  intro ω w hh
  refine enter Try.func25 rfl Try.ntmps25 rfl hh ?_
  simp only [List.nil_append, argsB]
  have hsz : (strOf k).size = k.length := strOf_size k
  obtain ⟨q, hq⟩ : ∃ q, decide (0 < k.length ∧ k.length ≤ 24 ∧ n ≤ 80) = q := ⟨_, rfl⟩
  rw [hq]
  refine sr ?_
  refine rr (rd_assign rfl) ?_
  refine nx ?_
  refine do_seq ?_
  refine do_cut (fun z : Bool => z = q) (fun z => [(4, .bool z)]) (fun _ => [F]) (fun K hK => ?_) ?_
  · rcases (show (0 < k.length ∧ k.length ≤ 24 ∧ n ≤ 80) ∨ (0 < k.length ∧ k.length ≤ 24 ∧ ¬ n ≤ 80) ∨ (0 < k.length ∧ ¬ k.length ≤ 24) ∨ ¬ 0 < k.length by omega) with hA | hA | hA | hA
    · refine do_region ?_
      refine rr (rd_move rfl) ?_
      refine rr ((rd_lens Try.underlying9 rfl).eq (congrArg (fun k : Nat => Value.int .i64 (k : Int)) hsz)) ?_
      first | refine rr ((rd_gt rfl rfl).eq (show _ = Value.bool true from congrArg _ (decide_eq_true (by omega)))) ?_ | refine rr ((rd_gt rfl rfl).eq (show _ = Value.bool false from congrArg _ (decide_eq_false (by omega)))) ?_
      refine rr (rd_move rfl) ?_
      first | refine sk ?_ | (refine rr (rd_move rfl) ?_)
      first | refine sk ?_ | (refine rr ((rd_lens Try.underlying9 rfl).eq (congrArg (fun k : Nat => Value.int .i64 (k : Int)) hsz)) ?_)
      first | refine sk ?_ | (first | refine rr ((rd_le rfl rfl).eq (show _ = Value.bool true from congrArg _ (decide_eq_true (by omega)))) ?_ | refine rr ((rd_le rfl rfl).eq (show _ = Value.bool false from congrArg _ (decide_eq_false (by omega)))) ?_)
      refine rr (rd_pick rfl rfl) ?_
      refine rr (rd_move rfl) ?_
      first | refine sk ?_ | (refine rr (rd_move rfl) ?_)
      first | refine sk ?_ | (refine rr (rd_len Try.underlying44 rfl) ?_)
      first | refine sk ?_ | (first | refine rr ((rd_le rfl rfl).eq (show _ = Value.bool true from congrArg _ (decide_eq_true (by omega)))) ?_ | refine rr ((rd_le rfl rfl).eq (show _ = Value.bool false from congrArg _ (decide_eq_false (by omega)))) ?_)
      refine rr (rd_pick rfl rfl) ?_
      refine rr (rd_assign rfl) ?_
      refine run_nil ?_
      refine St.kp [(4, _)] ?_
      refine St.then_n ?_
      exact St.sb (St.kq [(4, _)] (h := hK _ (by rw [← hq]; first | exact (decide_eq_true (by omega)).symm | exact (decide_eq_false (by omega)).symm)))
    · refine do_region ?_
      refine rr (rd_move rfl) ?_
      refine rr ((rd_lens Try.underlying9 rfl).eq (congrArg (fun k : Nat => Value.int .i64 (k : Int)) hsz)) ?_
      first | refine rr ((rd_gt rfl rfl).eq (show _ = Value.bool true from congrArg _ (decide_eq_true (by omega)))) ?_ | refine rr ((rd_gt rfl rfl).eq (show _ = Value.bool false from congrArg _ (decide_eq_false (by omega)))) ?_
      refine rr (rd_move rfl) ?_
      first | refine sk ?_ | (refine rr (rd_move rfl) ?_)
      first | refine sk ?_ | (refine rr ((rd_lens Try.underlying9 rfl).eq (congrArg (fun k : Nat => Value.int .i64 (k : Int)) hsz)) ?_)
      first | refine sk ?_ | (first | refine rr ((rd_le rfl rfl).eq (show _ = Value.bool true from congrArg _ (decide_eq_true (by omega)))) ?_ | refine rr ((rd_le rfl rfl).eq (show _ = Value.bool false from congrArg _ (decide_eq_false (by omega)))) ?_)
      refine rr (rd_pick rfl rfl) ?_
      refine rr (rd_move rfl) ?_
      first | refine sk ?_ | (refine rr (rd_move rfl) ?_)
      first | refine sk ?_ | (refine rr (rd_len Try.underlying44 rfl) ?_)
      first | refine sk ?_ | (first | refine rr ((rd_le rfl rfl).eq (show _ = Value.bool true from congrArg _ (decide_eq_true (by omega)))) ?_ | refine rr ((rd_le rfl rfl).eq (show _ = Value.bool false from congrArg _ (decide_eq_false (by omega)))) ?_)
      refine rr (rd_pick rfl rfl) ?_
      refine rr (rd_assign rfl) ?_
      refine run_nil ?_
      refine St.kp [(4, _)] ?_
      refine St.then_n ?_
      exact St.sb (St.kq [(4, _)] (h := hK _ (by rw [← hq]; first | exact (decide_eq_true (by omega)).symm | exact (decide_eq_false (by omega)).symm)))
    · refine do_region ?_
      refine rr (rd_move rfl) ?_
      refine rr ((rd_lens Try.underlying9 rfl).eq (congrArg (fun k : Nat => Value.int .i64 (k : Int)) hsz)) ?_
      first | refine rr ((rd_gt rfl rfl).eq (show _ = Value.bool true from congrArg _ (decide_eq_true (by omega)))) ?_ | refine rr ((rd_gt rfl rfl).eq (show _ = Value.bool false from congrArg _ (decide_eq_false (by omega)))) ?_
      refine rr (rd_move rfl) ?_
      first | refine sk ?_ | (refine rr (rd_move rfl) ?_)
      first | refine sk ?_ | (refine rr ((rd_lens Try.underlying9 rfl).eq (congrArg (fun k : Nat => Value.int .i64 (k : Int)) hsz)) ?_)
      first | refine sk ?_ | (first | refine rr ((rd_le rfl rfl).eq (show _ = Value.bool true from congrArg _ (decide_eq_true (by omega)))) ?_ | refine rr ((rd_le rfl rfl).eq (show _ = Value.bool false from congrArg _ (decide_eq_false (by omega)))) ?_)
      refine rr (rd_pick rfl rfl) ?_
      refine rr (rd_move rfl) ?_
      first | refine sk ?_ | (refine rr (rd_move rfl) ?_)
      first | refine sk ?_ | (refine rr (rd_len Try.underlying44 rfl) ?_)
      first | refine sk ?_ | (first | refine rr ((rd_le rfl rfl).eq (show _ = Value.bool true from congrArg _ (decide_eq_true (by omega)))) ?_ | refine rr ((rd_le rfl rfl).eq (show _ = Value.bool false from congrArg _ (decide_eq_false (by omega)))) ?_)
      refine rr (rd_pick rfl rfl) ?_
      refine rr (rd_assign rfl) ?_
      refine run_nil ?_
      refine St.kp [(4, _)] ?_
      refine St.then_n ?_
      exact St.sb (St.kq [(4, _)] (h := hK _ (by rw [← hq]; first | exact (decide_eq_true (by omega)).symm | exact (decide_eq_false (by omega)).symm)))
    · refine do_region ?_
      refine rr (rd_move rfl) ?_
      refine rr ((rd_lens Try.underlying9 rfl).eq (congrArg (fun k : Nat => Value.int .i64 (k : Int)) hsz)) ?_
      first | refine rr ((rd_gt rfl rfl).eq (show _ = Value.bool true from congrArg _ (decide_eq_true (by omega)))) ?_ | refine rr ((rd_gt rfl rfl).eq (show _ = Value.bool false from congrArg _ (decide_eq_false (by omega)))) ?_
      refine rr (rd_move rfl) ?_
      first | refine sk ?_ | (refine rr (rd_move rfl) ?_)
      first | refine sk ?_ | (refine rr ((rd_lens Try.underlying9 rfl).eq (congrArg (fun k : Nat => Value.int .i64 (k : Int)) hsz)) ?_)
      first | refine sk ?_ | (first | refine rr ((rd_le rfl rfl).eq (show _ = Value.bool true from congrArg _ (decide_eq_true (by omega)))) ?_ | refine rr ((rd_le rfl rfl).eq (show _ = Value.bool false from congrArg _ (decide_eq_false (by omega)))) ?_)
      refine rr (rd_pick rfl rfl) ?_
      refine rr (rd_move rfl) ?_
      first | refine sk ?_ | (refine rr (rd_move rfl) ?_)
      first | refine sk ?_ | (refine rr (rd_len Try.underlying44 rfl) ?_)
      first | refine sk ?_ | (first | refine rr ((rd_le rfl rfl).eq (show _ = Value.bool true from congrArg _ (decide_eq_true (by omega)))) ?_ | refine rr ((rd_le rfl rfl).eq (show _ = Value.bool false from congrArg _ (decide_eq_false (by omega)))) ?_)
      refine rr (rd_pick rfl rfl) ?_
      refine rr (rd_assign rfl) ?_
      refine run_nil ?_
      refine St.kp [(4, _)] ?_
      refine St.then_n ?_
      exact St.sb (St.kq [(4, _)] (h := hK _ (by rw [← hq]; first | exact (decide_eq_true (by omega)).symm | exact (decide_eq_false (by omega)).symm)))
  rintro z hz
  rw [hz]
  refine do_ret ?_
  refine do_ret1 Try.results25 (res_tmp rfl) ?_
  intro w hw
  exact ⟨(), trivial, rfl, hw.sb⟩
theorem size_spec (F : HP) (leaf : Bool) (x : Im) (hk : x.k.length ≤ 1099511627776) (hb : x.b.length ≤ 1099511627776) : Spec Try.prog 48 [.agg (imC x).toArray, .bool leaf] [] F (fun _ : Unit => True) (fun _ => .int .i64 (sizeI leaf x.p)) (fun _ => []) := by
  intro ω w hh
  refine enter Try.func48 rfl Try.ntmps48 rfl hh ?_
  simp only [List.nil_append, argsB, imC]
  have hsz : (strOf x.k).size = x.k.length := strOf_size x.k
  refine sr ?_
  refine r_bx fun b2 => ?_
  refine rr (rd_assign rfl) ?_
  refine nx ?_
  refine do_seq ?_
  refine sr ?_
  refine rr (rd_move rfl) ?_
  refine nx ?_
  first | refine do_condp rfl (fun h5 => ?_) (fun h5 => ?_) | refine do_cond rfl (fun h5 => ?_) (fun h5 => ?_)
  · subst h5
    refine sr ?_
    refine rr (rd_fa rfl fld69_0) ?_
    refine rr (rd_ld rfl row9) ?_
    refine rr ((rd_lens Try.underlying9 rfl).eq (congrArg (fun k : Nat => Value.int .i64 (k : Int)) hsz)) ?_
    refine rr (rd_addi rfl rfl) ?_
    refine rr (rd_fa rfl fld69_1) ?_
    refine rr (rd_ld rfl row44) ?_
    refine rr (rd_len Try.underlying44 rfl) ?_
    refine rr (rd_addi rfl rfl) ?_
    refine rr (rd_assign rfl) ?_
    refine run_nil ?_
    refine St.kp [(4, _)] ?_
    refine St.then_n ?_
    refine do_ret ?_
    refine St.then_r ?_
    refine do_ret1 Try.results48 (res_tmp rfl) ?_
    intro w hw
    exact ⟨(), trivial, congrArg _ (congrArg _ (show (2 : Int) + x.k.length + x.b.length = ((2 + x.k.length + x.b.length : Nat) : Int) by omega)), hw.sb⟩
  · subst h5
    refine do_skip ?_
    refine St.then_n ?_
    refine sr ?_
    refine rr (rd_fa rfl fld69_0) ?_
    refine rr (rd_ld rfl row9) ?_
    refine rr ((rd_lens Try.underlying9 rfl).eq (congrArg (fun k : Nat => Value.int .i64 (k : Int)) hsz)) ?_
    refine rr (rd_addi rfl rfl) ?_
    refine rr (rd_assign rfl) ?_
    refine run_nil ?_
    refine St.kp [(4, _)] ?_
    refine St.then_n ?_
    refine do_ret ?_
    refine do_ret1 Try.results48 (res_tmp rfl) ?_
    intro w hw
    exact ⟨(), trivial, congrArg _ (congrArg _ (show (3 : Int) + x.k.length = ((3 + x.k.length : Nat) : Int) by omega)), hw.sb⟩
end Go.Proofs.Ytgeldfgcicjidaa
