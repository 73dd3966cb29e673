/-
  A tree that is not there, and one in no pager.
-/
import Derived.Test.YtgeldfgcicjidaaGreatT18
namespace Go.Proofs.YtgeldfgcicjidaaGreat
open Go.RowKit
set_option linter.unusedSimpArgs false
set_option linter.unusedVariables false

theorem newNil_spec (F : HP) : Spec Tryz.prog 8 [.pointer none, .int .i64 (-1)] [] F (fun _ : Unit => True) (fun _ => .tuple #[.pointer none, .int .i64 2]) (fun _ => []) := by
  intro ω w hh
  refine enter Tryz.func8 rfl Tryz.ntmps8 rfl hh ?_
  simp only [List.nil_append, argsB]
  refine sr ?_
  refine rr (rd_assign rfl) ?_
  refine rr (rd_assign rfl) ?_
  refine nx ?_
  refine do_seq ?_
  refine do_block ?_
  refine sr ?_
  refine rr (rd_move rfl) ?_
  refine rr (rd_ptr_eq_nil Tryz.underlying24 rfl rfl) ?_
  refine rr (rd_assign rfl) ?_
  refine run_nil ?_
  refine St.kp [(0, _), (1, _), (6, _)] ?_
  refine St.then_n ?_
  refine do_cond_t rfl ?_
  refine sr ?_
  refine rr (rd_assign rfl) ?_
  refine rr (rd_assign rfl) ?_
  refine nx ?_
  refine do_ret ?_
  refine St.blk_r ?_
  refine St.then_r ?_
  refine do_ret2 Tryz.results8 (res_tmp rfl) (res_tmp rfl) ?_
  intro w hw
  exact ⟨(), trivial, rfl, hw.sb⟩
theorem loadNil_spec (F : HP) : Spec Tryz.prog 22 [.pointer none, .slice none 0 0] [] F (fun _ : Unit => True) (fun _ => .tuple #[.pointer none, .int .i64 2]) (fun _ => []) := by
  intro ω w hh
  refine enter Tryz.func22 rfl Tryz.ntmps22 rfl hh ?_
  simp only [List.nil_append, argsB]
  refine sr ?_
  refine rr (rd_assign rfl) ?_
  refine rr (rd_assign rfl) ?_
  refine nx ?_
  refine do_seq ?_
  refine sr ?_
  refine rr (rd_move rfl) ?_
  refine rr (rd_ptr_eq_nil Tryz.underlying24 rfl rfl) ?_
  refine nx ?_
  refine do_cond_t rfl ?_
  refine sr ?_
  refine rr (rd_assign rfl) ?_
  refine rr (rd_assign rfl) ?_
  refine run_nil ?_
  refine St.kp [(4, _), (5, _)] ?_
  refine St.then_n ?_
  refine do_ret ?_
  refine St.then_r ?_
  refine do_ret2 Tryz.results22 (res_tmp rfl) (res_tmp rfl) ?_
  intro w hw
  exact ⟨(), trivial, rfl, hw.sb⟩
theorem getNil_spec (F : HP) (key : List UInt8) : Spec Tryz.prog 27 [.pointer none, .string (strOf key)] [] F (fun _ : Unit => True) (fun _ => .tuple #[.slice none 0 0, .bool false, .int .i64 2]) (fun _ => []) := by
  intro ω w hh
  refine enter Tryz.func27 rfl Tryz.ntmps27 rfl hh ?_
  simp only [List.nil_append, argsB]
  refine sr ?_
  refine rr (rd_assign rfl) ?_
  refine rr (rd_assign rfl) ?_
  refine rr (rd_assign rfl) ?_
  refine nx ?_
  refine do_seq ?_
  refine sr ?_
  refine rr (rd_move rfl) ?_
  refine rr (rd_ptr_eq_nil Tryz.underlying27 rfl rfl) ?_
  refine run_nil ?_
  refine St.kp [(0, _), (1, _), (12, _)] ?_
  refine St.then_n ?_
  refine do_cond_t rfl ?_
  refine sr ?_
  refine rr (rd_assign rfl) ?_
  refine rr (rd_assign rfl) ?_
  refine rr (rd_assign rfl) ?_
  refine nx ?_
  refine do_ret ?_
  refine St.then_r ?_
  refine do_ret3 Tryz.results27 (res_tmp rfl) (res_tmp rfl) (res_tmp rfl) ?_
  intro w hw
  exact ⟨(), trivial, rfl, hw.sb⟩
theorem delNil_spec (F : HP) (key : List UInt8) : Spec Tryz.prog 17 [.pointer none, .string (strOf key)] [] F (fun _ : Unit => True) (fun _ => .tuple #[.bool false, .int .i64 2]) (fun _ => []) := by
  intro ω w hh
  refine enter Tryz.func17 rfl Tryz.ntmps17 rfl hh ?_
  simp only [List.nil_append, argsB]
  refine sr ?_
  refine r_b1 fun b3 => ?_
  refine rr (rd_assign rfl) ?_
  refine rr (rd_assign rfl) ?_
  refine nx ?_
  refine do_seq ?_
  refine sr ?_
  refine rr (rd_move rfl) ?_
  refine rr (rd_ptr_eq_nil Tryz.underlying27 rfl rfl) ?_
  refine run_nil ?_
  refine St.kp [(0, _), (3, _), (10, _)] ?_
  refine St.then_n ?_
  refine do_cond_t rfl ?_
  refine sr ?_
  refine rr (rd_assign rfl) ?_
  refine rr (rd_assign rfl) ?_
  refine nx ?_
  refine do_ret ?_
  refine St.then_r ?_
  refine do_ret2 Tryz.results17 (res_tmp rfl) (res_tmp rfl) ?_
  intro w hw
  exact ⟨(), trivial, rfl, hw.sb⟩
theorem putNil_spec (F : HP) (key : List UInt8) (v : Value) (h1 : v.oneCell' = true) : Spec Tryz.prog 12 [.pointer none, .string (strOf key), v] [] F (fun _ : Unit => True) (fun _ => .int .i64 2) (fun _ => []) := by
  intro ω w hh
  refine enter Tryz.func12 rfl Tryz.ntmps12 rfl hh ?_
  simp only [List.nil_append, argsB]
  refine sr ?_
  refine r_b1 fun b4 => ?_
  refine r_b1 (h1 := h1) (fun b5 => ?_)
  refine rr (rd_assign rfl) ?_
  refine nx ?_
  refine do_seq ?_
  refine do_block ?_
  refine sr ?_
  refine rr (rd_move rfl) ?_
  refine rr (rd_ptr_eq_nil Tryz.underlying27 rfl rfl) ?_
  refine rr (rd_assign rfl) ?_
  refine run_nil ?_
  refine St.kp [(0, _), (4, _), (5, _), (7, _)] ?_
  refine St.then_n ?_
  refine do_cond_t rfl ?_
  refine sr ?_
  refine rr (rd_assign rfl) ?_
  refine run_nil ?_
  refine St.kp [(6, _)] ?_
  refine St.then_n ?_
  refine do_ret ?_
  refine St.blk_r ?_
  refine St.then_r ?_
  refine do_ret1 Tryz.results12 (res_tmp rfl) ?_
  intro w hw
  exact ⟨(), trivial, rfl, hw.sb⟩
theorem rootNil_spec (F : HP) : Spec Tryz.prog 26 [.pointer none] [] F (fun _ : Unit => True) (fun _ => .int .i64 (-1)) (fun _ => []) := by
  intro ω w hh
  refine enter Tryz.func26 rfl Tryz.ntmps26 rfl hh ?_
  simp only [List.nil_append, argsB]
  refine sr ?_
  refine rr (rd_assign rfl) ?_
  refine nx ?_
  refine do_seq ?_
  refine sr ?_
  refine rr (rd_move rfl) ?_
  refine rr (rd_ptr_eq_nil Tryz.underlying27 rfl rfl) ?_
  refine nx ?_
  refine do_cond_t rfl ?_
  refine sr ?_
  refine rr (rd_assign rfl) ?_
  refine nx ?_
  refine do_ret ?_
  refine St.then_r ?_
  refine do_ret1 Tryz.results26 (res_tmp rfl) ?_
  intro w hw
  exact ⟨(), trivial, rfl, hw.sb⟩
theorem wholeNil_spec (F : HP) : Spec Tryz.prog 55 [.pointer none] [] F (fun _ : Unit => True) (fun _ => .tuple #[.agg #[.int .i64 0, .int .i64 0, .slice none 0 0], .int .i64 2]) (fun _ => []) := by
  intro ω w hh
  refine enter Tryz.func55 rfl Tryz.ntmps55 rfl hh ?_
  simp only [List.nil_append, argsB]
  refine sr ?_
  refine r_al zero111 fun b2 => ?_
  refine rr (rd_assign rfl) ?_
  refine nx ?_
  refine do_seq ?_
  refine do_block ?_
  refine sr ?_
  refine rr (rd_move rfl) ?_
  refine rr (rd_ptr_eq_nil Tryz.underlying27 rfl rfl) ?_
  refine rr (rd_assign rfl) ?_
  refine nx ?_
  refine do_cond_t rfl ?_
  refine sr ?_
  refine rr (rd_bd [_, _, _] zero111 plc111) ?_
  first | refine r_sa row111 ?_ | refine r_sm row111 ?_
  refine rr (rd_assign rfl) ?_
  refine run_nil ?_
  refine St.kp [(2, _), (3, _)] ?_
  refine St.then_n ?_
  refine do_ret ?_
  refine St.blk_r ?_
  refine St.then_r ?_
  refine do_ret2 Tryz.results55 (res_cell_row (vs := [_, _, _]) rfl row111 rfl (cells_pts (by repeat (first | with_reducible exact Sel.head | apply Sel.tail)) rfl)) (res_tmp rfl) ?_
  intro w hw
  exact ⟨(), trivial, rfl, hw.sb⟩
theorem lenNil_spec (F : HP) : Spec Tryz.prog 28 [.pointer none] [] F (fun _ : Unit => True) (fun _ => .tuple #[.int .i64 0, .int .i64 2]) (fun _ => []) := by
  intro ω w hh
  refine enter Tryz.func28 rfl Tryz.ntmps28 rfl hh ?_
  simp only [List.nil_append, argsB]
  refine sr ?_
  refine rr (rd_assign rfl) ?_
  refine rr (rd_assign rfl) ?_
  refine nx ?_
  refine sr ?_
  refine rr (rd_move rfl) ?_
  refine rc (hs := wholeNil_spec _) (k := ?_)
  rintro ⟨⟩ -
  try simp only [List.cons_append, List.nil_append]
  refine rr (rd_move rfl) ?_
  refine rr (rd_extract rfl rfl) ?_
  refine rr (rd_extract rfl rfl) ?_
  refine r_al zero111 fun b4 => ?_
  first | refine r_sa row111 ?_ | refine r_sm row111 ?_
  refine rr (rd_assign rfl) ?_
  refine run_nil ?_
  refine St.kp [(4, _), (5, _)] ?_
  refine St.then_n ?_
  refine sr ?_
  refine rr (rd_fa rfl fld111_0) ?_
  refine rr (rd_ld rfl row3) ?_
  refine rr (rd_move rfl) ?_
  refine rr (rd_assign rfl) ?_
  refine rr (rd_assign rfl) ?_
  refine run_nil ?_
  refine St.kp [(2, _), (3, _)] ?_
  refine St.then_n ?_
  refine do_ret ?_
  refine do_ret2 Tryz.results28 (res_tmp rfl) (res_tmp rfl) ?_
  intro w hw
  exact ⟨(), trivial, rfl, hw.sb⟩
theorem rightNil_spec (F : HP) : Spec Tryz.prog 30 [.pointer none] [] F (fun _ : Unit => True) (fun _ => .int .i64 2) (fun _ => []) := by
  intro ω w hh
  refine enter Tryz.func30 rfl Tryz.ntmps30 rfl hh ?_
  simp only [List.nil_append, argsB]
  refine sr ?_
  refine rr (rd_assign rfl) ?_
  refine nx ?_
  refine sr ?_
  refine rr (rd_move rfl) ?_
  refine rc (hs := wholeNil_spec _) (k := ?_)
  rintro ⟨⟩ -
  try simp only [List.cons_append, List.nil_append]
  refine rr (rd_move rfl) ?_
  refine rr (rd_extract rfl rfl) ?_
  refine rr (rd_extract rfl rfl) ?_
  refine r_al zero111 fun b3 => ?_
  first | refine r_sa row111 ?_ | refine r_sm row111 ?_
  refine rr (rd_assign rfl) ?_
  refine run_nil ?_
  refine St.kp [(4, _)] ?_
  refine St.then_n ?_
  refine sr ?_
  refine rr (rd_move rfl) ?_
  refine rr (rd_assign rfl) ?_
  refine nx ?_
  refine do_ret ?_
  refine do_ret1 Tryz.results30 (res_tmp rfl) ?_
  intro w hw
  exact ⟨(), trivial, rfl, hw.sb⟩
section
variable {P : Program} {ω : Amb} {m : Nat} {ds : List Deferred} {Γ : List HP} {β : List (Nat × Value)} {t ty : TypeId} {pos : String} {af : Array Edge} {gd : Option (Nat × Bool)} {d : Option Tmp} {x y : Operand}
/-- A byte of a string. -/
theorem rd_index {s : ByteArray} {kk : IntKind} {i : Int} {b : UInt8} (ht : P.underlying t = some .string) (hx : ev β x = some (.string s)) (hy : ev β y = some (.int kk i)) (h0 : 0 ≤ i) (h : s[i.toNat]? = some b) : Reads P ω m ds Γ β ⟨d, .index t x y, ty, pos, af, gd⟩ (.int .u8 b.toNat) := fun a w hh hb => by
  simp [execOp, hb.eval hx, hb.eval hy, Instr.index, asIntOf, run_underlying ht, h0, h]
end
theorem insNil_spec (F : HP) : Spec Tryz.prog 112 [.slice none 0 0, .int .i64 0, .int .i64 0] [] F (fun _ : Unit => True) (fun _ => .tuple #[]) (fun _ => []) := by
  intro ω w hh
  refine enter Tryz.func112 rfl Tryz.ntmps112 rfl hh ?_
  simp only [List.nil_append, argsB]
  refine sr ?_
  refine rr (rd_move rfl) ?_
  refine rr (rd_addi rfl rfl) ?_
  refine rr (rd_assign rfl) ?_
  refine nx ?_
  refine do_block ?_
  refine do_lp (fun _ : Unit => True) (fun _ => [(2, .int .i64 0), (6, .int .i64 1)]) (fun _ => [F]) (fun _ => 0) () trivial ?_
  rintro ⟨⟩ -
  refine do_seq ?_
  refine sr ?_
  refine rr (rd_move rfl) ?_
  refine rr (rd_move rfl) ?_
  refine rr (rd_lt rfl rfl) ?_
  refine nx ?_
  refine do_cond_f rfl ?_
  refine do_exit ?_
  refine St.then_x ?_
  refine St.then_x ?_
  refine St.blk_s ?_
  refine do_end0 Tryz.results112 ?_
  intro w hw
  exact ⟨(), trivial, rfl, hw.sb⟩
theorem len0_spec (F : HP) : Spec Tryz.prog 122 [.int .u64 0] [] F (fun _ : Unit => True) (fun _ => .int .i64 0) (fun _ => []) := by
  intro ω w hh
  refine enter Tryz.func122 rfl Tryz.ntmps122 rfl hh ?_
  simp only [List.nil_append, argsB]
  refine sr ?_
  refine rr (rd_assign rfl) ?_
  refine nx ?_
  refine do_seq ?_
  refine sr ?_
  refine rr (rd_move rfl) ?_
  refine rr (rd_ge rfl rfl) ?_
  refine nx ?_
  refine do_cond_f rfl ?_
  refine do_skip ?_
  refine St.then_n ?_
  refine do_seq ?_
  refine sr ?_
  refine rr (rd_move rfl) ?_
  refine rr (rd_ge rfl rfl) ?_
  refine nx ?_
  refine do_cond_f rfl ?_
  refine do_skip ?_
  refine St.then_n ?_
  refine do_seq ?_
  refine sr ?_
  refine rr (rd_move rfl) ?_
  refine rr (rd_ge rfl rfl) ?_
  refine run_nil ?_
  refine St.kp [(0, _), (2, _), (14, _)] ?_
  refine St.then_n ?_
  refine do_cond_f rfl ?_
  refine do_skip ?_
  refine St.then_n ?_
  refine sr ?_
  refine rr (rd_move rfl) ?_
  refine rr (rd_move rfl) ?_
  first | refine rr ((rd_conv Tryz.underlying146 Tryz.underlying5 rfl).eq (congrArg (Value.int .u8) (IntWalk.u8_in _ (by omega)))) ?_ | refine rr (rd_conv Tryz.underlying146 Tryz.underlying5 rfl) ?_
  refine rr ((rd_index (i := 0) (b := 0) Tryz.underlying9 rfl rfl (by decide) (by kernel_rfl)).eq (show _ = Value.int .u8 0 from rfl)) ?_
  refine rr (rd_cvi Tryz.underlying5 Tryz.underlying3 rfl) ?_
  refine rr (rd_addi rfl rfl) ?_
  refine rr (rd_assign rfl) ?_
  refine run_nil ?_
  refine St.kp [(2, _)] ?_
  refine St.then_n ?_
  refine do_ret ?_
  refine do_ret1 Tryz.results122 (res_tmp rfl) ?_
  intro w hw
  exact ⟨(), trivial, rfl, hw.sb⟩
theorem lenB0_spec (F : HP) : Spec Tryz.prog 93 [.int .u64 0] [] F (fun _ : Unit => True) (fun _ => .int .i64 0) (fun _ => []) := by
  intro ω w hh
  refine enter Tryz.func93 rfl Tryz.ntmps93 rfl hh ?_
  simp only [List.nil_append, argsB]
  refine sr ?_
  refine rr (rd_assign rfl) ?_
  refine nx ?_
  refine do_seq ?_
  refine do_cond_f rfl ?_
  refine do_skip ?_
  refine St.then_n ?_
  refine sr ?_
  refine rr (rd_move rfl) ?_
  refine rc (hs := len0_spec _) (k := ?_)
  rintro ⟨⟩ -
  try simp only [List.cons_append, List.nil_append]
  refine rr (rd_assign rfl) ?_
  refine nx ?_
  refine do_ret ?_
  refine do_ret1 Tryz.results93 (res_tmp rfl) ?_
  intro w hw
  exact ⟨(), trivial, rfl, hw.sb⟩
theorem pdqNil_spec (F : HP) : Spec Tryz.prog 92 [.slice none 0 0, .int .i64 0, .int .i64 0, .int .i64 0] [] F (fun _ : Unit => True) (fun _ => .tuple #[]) (fun _ => []) := by
  intro ω w hh
  refine enter Tryz.func92 rfl Tryz.ntmps92 rfl hh ?_
  simp only [List.nil_append, argsB]
  refine sr ?_
  refine rr (rd_assign rfl) ?_
  refine nx ?_
  refine sr ?_
  refine rr (rd_assign rfl) ?_
  refine nx ?_
  refine do_block ?_
  refine do_lp (fun _ : Unit => True) (fun _ => [(0, .slice none 0 0), (1, .int .i64 0), (2, .int .i64 0)]) (fun _ => [F]) (fun _ => 0) () trivial ?_
  rintro ⟨⟩ -
  refine do_block ?_
  refine sr ?_
  refine rr (rd_move rfl) ?_
  refine rr (rd_move rfl) ?_
  refine rr (rd_subi rfl rfl) ?_
  refine rr (rd_assign rfl) ?_
  refine nx ?_
  refine do_seq ?_
  refine sr ?_
  refine rr (rd_move rfl) ?_
  refine rr (rd_le rfl rfl) ?_
  refine run_nil ?_
  refine St.kp [(0, _), (1, _), (2, _), (10, _), (23, _)] ?_
  refine St.then_n ?_
  refine do_cond_t rfl ?_
  refine sr ?_
  refine rr (rd_move rfl) ?_
  refine rr (rd_move rfl) ?_
  refine rr (rd_move rfl) ?_
  refine rc (hs := insNil_spec _) (k := ?_)
  rintro ⟨⟩ -
  try simp only [List.cons_append, List.nil_append]
  refine run_nil ?_
  refine St.kp [] ?_
  refine St.then_n ?_
  refine do_ret ?_
  refine St.then_r ?_
  refine St.blk_r ?_
  refine St.then_r ?_
  refine St.blk_r ?_
  refine do_ret0 Tryz.results92 ?_
  intro w hw
  exact ⟨(), trivial, rfl, hw.sb⟩
theorem sortNil_spec (F : HP) : Spec Tryz.prog 56 [.slice none 0 0] [] F (fun _ : Unit => True) (fun _ => .tuple #[]) (fun _ => []) := by
  intro ω w hh
  refine enter Tryz.func56 rfl Tryz.ntmps56 rfl hh ?_
  simp only [List.nil_append, argsB]
  refine sr ?_
  refine rr (rd_move rfl) ?_
  refine rr (rd_len Tryz.underlying35 rfl) ?_
  refine rr (rd_assign rfl) ?_
  refine nx ?_
  refine do_region ?_
  refine rr (rd_move rfl) ?_
  refine rr (rd_move rfl) ?_
  refine rr (rd_move rfl) ?_
  refine rr (rd_cvu Tryz.underlying3 Tryz.underlying153 rfl) ?_
  refine rc (hs := lenB0_spec _) (k := ?_)
  rintro ⟨⟩ -
  try simp only [List.cons_append, List.nil_append]
  refine rc (hs := pdqNil_spec _) (k := ?_)
  rintro ⟨⟩ -
  try simp only [List.cons_append, List.nil_append]
  refine run_nil ?_
  refine St.kp [] ?_
  refine do_end0 Tryz.results56 ?_
  intro w hw
  exact ⟨(), trivial, rfl, hw.sb⟩
theorem pagesNil_spec (F : HP) : Spec Tryz.prog 29 [.pointer none] [] F (fun _ : Unit => True) (fun _ => .tuple #[.slice none 0 0, .int .i64 2]) (fun _ => []) := by
  intro ω w hh
  refine enter Tryz.func29 rfl Tryz.ntmps29 rfl hh ?_
  simp only [List.nil_append, argsB]
  refine sr ?_
  refine rr (rd_assign rfl) ?_
  refine rr (rd_assign rfl) ?_
  refine nx ?_
  refine sr ?_
  refine rr (rd_move rfl) ?_
  refine rc (hs := wholeNil_spec _) (k := ?_)
  rintro ⟨⟩ -
  try simp only [List.cons_append, List.nil_append]
  refine rr (rd_move rfl) ?_
  refine rr (rd_extract rfl rfl) ?_
  refine rr (rd_extract rfl rfl) ?_
  refine r_al zero111 fun b4 => ?_
  first | refine r_sa row111 ?_ | refine r_sm row111 ?_
  refine rr (rd_assign rfl) ?_
  refine run_nil ?_
  refine St.kp [(4, _), (5, _)] ?_
  refine St.then_n ?_
  refine sr ?_
  refine rr (rd_fa rfl fld111_2) ?_
  refine rr (rd_ld rfl row35) ?_
  refine rc (hs := sortNil_spec _) (k := ?_)
  rintro ⟨⟩ -
  try simp only [List.cons_append, List.nil_append]
  refine nx ?_
  refine sr ?_
  refine rr (rd_fa rfl fld111_2) ?_
  refine rr (rd_ld rfl row35) ?_
  refine rr (rd_move rfl) ?_
  refine rr (rd_assign rfl) ?_
  refine rr (rd_assign rfl) ?_
  refine run_nil ?_
  refine St.kp [(2, _), (3, _)] ?_
  refine St.then_n ?_
  refine do_ret ?_
  refine do_ret2 Tryz.results29 (res_tmp rfl) (res_tmp rfl) ?_
  intro w hw
  exact ⟨(), trivial, rfl, hw.sb⟩
theorem btreeNil_law (key : List UInt8) (v : Value) (h1 : v.oneCell' = true) (w : World) :
    Calls Tryz.prog 4 #[.string (strOf key), v] w fun e w' => e = .returned (.bool true) ∧ Fr nowhere w w' := by
  refine enter (vs := [.string (strOf key), v]) Tryz.func4 rfl Tryz.ntmps4 rfl (Holds.init w) ?_
  simp only [argsB]
  refine sr ?_
  refine rr (rd_assign rfl) ?_
  refine nx ?_
  refine sr ?_
  refine rr (rd_assign rfl) ?_
  refine nx ?_
  refine sr ?_
  refine rc (hs := newNil_spec _) (k := ?_)
  rintro ⟨⟩ -
  try simp only [List.cons_append, List.nil_append]
  refine rr (rd_move rfl) ?_
  refine rr (rd_extract rfl rfl) ?_
  refine rr (rd_extract rfl rfl) ?_
  refine rr (rd_assign rfl) ?_
  refine rr (rd_assign rfl) ?_
  refine run_nil ?_
  refine St.kp [(0, _), (1, _), (5, _), (6, _), (7, _)] ?_
  refine St.then_n ?_
  refine sr ?_
  refine rc (hs := loadNil_spec _) (k := ?_)
  rintro ⟨⟩ -
  try simp only [List.cons_append, List.nil_append]
  refine rr (rd_move rfl) ?_
  refine rr (rd_extract rfl rfl) ?_
  refine rr (rd_extract rfl rfl) ?_
  refine rr (rd_assign rfl) ?_
  refine rr (rd_assign rfl) ?_
  refine run_nil ?_
  refine St.kp [(0, _), (1, _), (5, _), (6, _), (7, _), (8, _), (9, _)] ?_
  refine St.then_n ?_
  refine sr ?_
  refine rr (rd_move rfl) ?_
  refine rr (rd_move rfl) ?_
  refine rc (hs := getNil_spec _ key) (k := ?_)
  rintro ⟨⟩ -
  try simp only [List.cons_append, List.nil_append]
  refine rr (rd_move rfl) ?_
  refine rr (rd_extract rfl rfl) ?_
  refine rr (rd_extract rfl rfl) ?_
  refine rr (rd_extract rfl rfl) ?_
  refine rr (rd_assign rfl) ?_
  refine rr (rd_assign rfl) ?_
  refine rr (rd_assign rfl) ?_
  refine run_nil ?_
  refine St.kp [(0, _), (1, _), (5, _), (6, _), (7, _), (8, _), (9, _), (11, _), (12, _)] ?_
  refine St.then_n ?_
  refine sr ?_
  refine rr (rd_move rfl) ?_
  refine rr (rd_move rfl) ?_
  refine rc (hs := delNil_spec _ key) (k := ?_)
  rintro ⟨⟩ -
  try simp only [List.cons_append, List.nil_append]
  refine rr (rd_move rfl) ?_
  refine rr (rd_extract rfl rfl) ?_
  refine rr (rd_extract rfl rfl) ?_
  refine rr (rd_assign rfl) ?_
  refine rr (rd_assign rfl) ?_
  refine run_nil ?_
  refine St.kp [(0, _), (1, _), (5, _), (6, _), (7, _), (8, _), (9, _), (11, _), (12, _), (13, _), (14, _)] ?_
  refine St.then_n ?_
  refine sr ?_
  refine rr (rd_move rfl) ?_
  refine rc (hs := lenNil_spec _) (k := ?_)
  rintro ⟨⟩ -
  try simp only [List.cons_append, List.nil_append]
  refine rr (rd_move rfl) ?_
  refine rr (rd_extract rfl rfl) ?_
  refine rr (rd_extract rfl rfl) ?_
  refine rr (rd_assign rfl) ?_
  refine rr (rd_assign rfl) ?_
  refine run_nil ?_
  refine St.kp [(0, _), (1, _), (5, _), (6, _), (7, _), (8, _), (9, _), (11, _), (12, _), (13, _), (14, _), (15, _), (16, _)] ?_
  refine St.then_n ?_
  refine sr ?_
  refine rr (rd_move rfl) ?_
  refine rc (hs := pagesNil_spec _) (k := ?_)
  rintro ⟨⟩ -
  try simp only [List.cons_append, List.nil_append]
  refine rr (rd_move rfl) ?_
  refine rr (rd_extract rfl rfl) ?_
  refine rr (rd_extract rfl rfl) ?_
  refine rr (rd_assign rfl) ?_
  refine rr (rd_assign rfl) ?_
  refine run_nil ?_
  refine St.kp [(0, _), (1, _), (5, _), (6, _), (7, _), (8, _), (9, _), (11, _), (12, _), (13, _), (14, _), (15, _), (16, _), (17, _), (18, _)] ?_
  refine St.then_n ?_
  refine sr ?_
  refine rr (rd_move rfl) ?_
  refine rr (rd_ptr_eq_nil Tryz.underlying27 rfl rfl) ?_
  refine rr (rd_move rfl) ?_
  first | refine sk ?_ | (refine rr (rd_move rfl) ?_)
  first | refine sk ?_ | (refine rr (rd_eq rfl rfl) ?_)
  refine rr (rd_pick rfl rfl) ?_
  refine rr (rd_move rfl) ?_
  first | refine sk ?_ | (refine rr (rd_move rfl) ?_)
  first | refine sk ?_ | (refine rr (rd_ptr_eq_nil Tryz.underlying27 rfl rfl) ?_)
  refine rr (rd_pick rfl rfl) ?_
  refine rr (rd_move rfl) ?_
  first | refine sk ?_ | (refine rr (rd_move rfl) ?_)
  first | refine sk ?_ | (refine rr (rd_eq rfl rfl) ?_)
  refine rr (rd_pick rfl rfl) ?_
  refine rr (rd_move rfl) ?_
  first | refine sk ?_ | (refine rr (rd_move rfl) ?_)
  first | refine sk ?_ | (refine rr (rd_not rfl) ?_)
  refine rr (rd_pick rfl rfl) ?_
  refine rr (rd_move rfl) ?_
  first | refine sk ?_ | (refine rr (rd_move rfl) ?_)
  first | refine sk ?_ | (refine rr (rd_eq rfl rfl) ?_)
  refine rr (rd_pick rfl rfl) ?_
  refine rr (rd_move rfl) ?_
  first | refine sk ?_ | (refine rr (rd_move rfl) ?_)
  first | refine sk ?_ | (refine rr (rd_move rfl) ?_)
  first | refine sk ?_ | (refine rr (rd_move rfl) ?_)
  first
    | refine sk ?_
    | (refine rc (hs := putNil_spec _ key v h1) (k := ?_)
       rintro ⟨⟩ -
       try simp only [List.cons_append, List.nil_append])
  first | refine sk ?_ | (refine rr (rd_eq rfl rfl) ?_)
  refine rr (rd_pick rfl rfl) ?_
  refine rr (rd_move rfl) ?_
  first | refine sk ?_ | (refine rr (rd_move rfl) ?_)
  first | refine sk ?_ | (refine rr (rd_not rfl) ?_)
  refine rr (rd_pick rfl rfl) ?_
  refine rr (rd_move rfl) ?_
  first | refine sk ?_ | (refine rr (rd_move rfl) ?_)
  first | refine sk ?_ | (refine rr (rd_eq rfl rfl) ?_)
  refine rr (rd_pick rfl rfl) ?_
  refine rr (rd_move rfl) ?_
  first | refine sk ?_ | (refine rr (rd_move rfl) ?_)
  first | refine sk ?_ | (refine rr (rd_eq rfl rfl) ?_)
  refine rr (rd_pick rfl rfl) ?_
  refine rr (rd_move rfl) ?_
  first | refine sk ?_ | (refine rr (rd_move rfl) ?_)
  first | refine sk ?_ | (refine rr (rd_eq rfl rfl) ?_)
  refine rr (rd_pick rfl rfl) ?_
  refine rr (rd_move rfl) ?_
  first | refine sk ?_ | (refine rr (rd_move rfl) ?_)
  first | refine sk ?_ | (refine rr (rd_len Tryz.underlying35 rfl) ?_)
  first | refine sk ?_ | (refine rr (rd_eq rfl rfl) ?_)
  refine rr (rd_pick rfl rfl) ?_
  refine rr (rd_move rfl) ?_
  first | refine sk ?_ | (refine rr (rd_move rfl) ?_)
  first | refine sk ?_ | (refine rr (rd_eq rfl rfl) ?_)
  refine rr (rd_pick rfl rfl) ?_
  refine rr (rd_move rfl) ?_
  first | refine sk ?_ | (refine rr (rd_move rfl) ?_)
  first
    | refine sk ?_
    | (refine rc (hs := rootNil_spec _) (k := ?_)
       rintro ⟨⟩ -
       try simp only [List.cons_append, List.nil_append])
  first | refine sk ?_ | (refine rr (rd_eq rfl rfl) ?_)
  refine rr (rd_pick rfl rfl) ?_
  refine rr (rd_move rfl) ?_
  first | refine sk ?_ | (refine rr (rd_move rfl) ?_)
  first
    | refine sk ?_
    | (refine rc (hs := rightNil_spec _) (k := ?_)
       rintro ⟨⟩ -
       try simp only [List.cons_append, List.nil_append])
  first | refine sk ?_ | (refine rr (rd_eq rfl rfl) ?_)
  refine rr (rd_pick rfl rfl) ?_
  refine rr (rd_move rfl) ?_
  first | refine sk ?_ | (refine rr (rd_move rfl) ?_)
  first
    | refine sk ?_
    | (refine rc (hs := all_nil _ [] []) (k := ?_)
       rintro ⟨A9, c9⟩ -
       dsimp only
       try simp only [List.cons_append, List.nil_append])
  first | refine sk ?_ | (refine rr (rd_len Tryz.underlying32 rfl) ?_)
  first | refine sk ?_ | (refine rr (rd_eq rfl rfl) ?_)
  refine rr (rd_pick rfl rfl) ?_
  refine rr (rd_move rfl) ?_
  first
    | refine sk ?_
    | (refine rc (hs := known_spec _) (k := ?_)
       rintro ⟨⟩ -
       try simp only [List.cons_append, List.nil_append])
  refine rr (rd_pick rfl rfl) ?_
  refine rr (rd_assign rfl) ?_
  refine run_nil ?_
  refine St.kp [(4, _)] ?_
  refine St.then_n ?_
  refine do_ret ?_
  refine do_ret1 Tryz.results4 (res_tmp rfl) ?_
  intro w hw
  exact ⟨rfl, hw.to_fr (by repeat (first | with_reducible exact Sel.head | apply Sel.tail))⟩
end Go.Proofs.YtgeldfgcicjidaaGreat
