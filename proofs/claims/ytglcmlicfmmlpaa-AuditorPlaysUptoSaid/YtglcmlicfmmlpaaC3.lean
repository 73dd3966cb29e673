/-
  Commands, asks as bytes: what the program makes.
-/
import Derived.Test.YtglcmlicfmmlpaaC2
namespace Go.Proofs.Ytglcmlicfmmlpaa
open Go.RowKit
set_option linter.unusedSimpArgs false
set_option linter.unusedVariables false

structure GCmd where
  kind : Int
  op : GOp
  id : List UInt8
  name : List UInt8
  n : Int
  why : Int
  slot : Int
  epoch : Int
  at_ : Int
  last : Bool
  A : Option Addr
  c : Nat
  data : List UInt8
abbrev GCmd.v (x : GCmd) : Value := .slice x.A x.data.length x.c
abbrev GCmd.L (x : GCmd) : List Value := [.int .i64 x.kind, .int .i64 x.op.kind, .string (strOf x.op.src), .string (strOf x.op.dst), .int .i64 x.op.amt, .string (strOf x.op.key), .int .i64 x.op.slot, .int .i64 x.op.shard,
  .string (strOf x.id), .string (strOf x.name), .int .i64 x.n, .int .i64 x.why, .int .i64 x.slot, .int .i64 x.epoch, .int .i64 x.at_, .bool x.last, x.v]
structure GCmd.ok (x : GCmd) : Prop where
  kind : i64r x.kind
  op : x.op.ok
  id : shortS x.id
  name : shortS x.name
  n : i64r x.n
  why : i64r x.why
  slot : i64r x.slot
  epoch : i64r x.epoch
  at_ : i64r x.at_
  data : shortS x.data
def cmdB (x : GCmd) : List UInt8 := ivar x.kind ++ opB x.op ++ txt x.id ++ txt x.name ++ ivar x.n ++ ivar x.why ++ ivar x.slot ++ ivar x.epoch ++ ivar x.at_ ++ uvar (bnat x.last) ++ txt x.data
theorem cmdB_len {x : GCmd} (h : x.ok) : (cmdB x).length ≤ 8796093022208 := by
  have := ivar_len h.kind
  have := opB_len h.op
  have := txt_len h.id
  have := txt_len h.name
  have := ivar_len h.n
  have := ivar_len h.why
  have := ivar_len h.slot
  have := ivar_len h.epoch
  have := ivar_len h.at_
  have := txt_len h.data
  have := uvar_len64 (n := bnat x.last) (by unfold bnat; split <;> decide)
  unfold cmdB
  simp only [List.length_append]; omega
set_option maxRecDepth 4000 in
theorem shardBytes_spec (F : HP) (x : GCmd) (hF : VwB F x.v x.data) (hx : x.ok) :
    Spec Try.prog 74 [.agg x.L.toArray] [] F (fun _ : Value => True) (fun v' => v') (fun v' => [bytesO v' (cmdB x)]) := by
  intro ω w hh
  refine enter Try.func74 rfl Try.ntmps74 rfl hh ?_
  simp only [List.nil_append, argsB]
  obtain ⟨kind, op, id, name, n, why, slot, epoch, at_, last, Ad, cd, data⟩ := x
  obtain ⟨h1, h2, h3, h4, h5, h6, h7, h8, h9, h10⟩ := hx
  dsimp only at h1 h2 h3 h4 h5 h6 h7 h8 h9 h10 hF ⊢
  have l1 := ivar_len h1
  have l2 := opB_len h2
  have l3 := txt_len h3
  have l4 := txt_len h4
  have l5 := ivar_len h5
  have l6 := ivar_len h6
  have l7 := ivar_len h7
  have l8 := ivar_len h8
  have l9 := ivar_len h9
  have l3' := uvar_len64 (n := id.length) (by unfold shortS at h3; omega)
  have l4' := uvar_len64 (n := name.length) (by unfold shortS at h4; omega)
  have l10 := uvar_len64 (n := bnat last) (by unfold bnat; split <;> decide)
  unfold i64r shortS at *
  refine do_seq ?_
  refine do_region ?_
  refine run_box_row rfl (by decide) rfl (fun b1 => ?_)
  refine run_read rfl (by decide) (fun _ => nofun) (rd_assign rfl) ?_
  refine run_nil ?_
  refine St.then_n ?_
  refine do_seq ?_
  refine do_draw [[1, 2, 5, 6], [2, 5, 6], [5, 6], [4, 5, 6], [5, 6], [6], []] (by kernel_rfl) rfl ?_
  first | refine any_take (i := 0) (by kernel_rfl) rfl rfl (by decide) (fun _ _ _ _ _ h => h) rfl (rd_fieldAddr0 rfl fld47_0) ?_ | refine any_take (i := 0) (by kernel_rfl) rfl rfl (by decide) (fun _ _ _ _ _ h => h) rfl (rd_fieldAddr rfl fld47_0) ?_
  refine any_take (i := 1) (by kernel_rfl) rfl rfl (by decide) (fun _ _ _ _ _ h => h) rfl (rd_load rfl row3 (cells_pts1 (by repeat (first | with_reducible exact Sel.head | apply Sel.tail)) rfl)) ?_
  first | refine any_take (i := 3) (by kernel_rfl) rfl rfl (by decide) (fun _ _ _ _ _ h => h) rfl (rd_fieldAddr0 rfl fld47_1) ?_ | refine any_take (i := 3) (by kernel_rfl) rfl rfl (by decide) (fun _ _ _ _ _ h => h) rfl (rd_fieldAddr rfl fld47_1) ?_
  refine any_take (i := 4) (by kernel_rfl) rfl rfl (by decide) (fun _ _ _ _ _ h => h) rfl (rd_load_row (vs := [_, _, _, _, _, _, _]) rfl row24 rfl (cells_pts (by repeat (first | with_reducible exact Sel.head | apply Sel.tail)) rfl)) ?_
  refine any_run (j := 2) (by kernel_rfl) rfl ?_
  refine run_spec rfl (by decide) (by kernel_rfl) rfl (by repeat (first | exact Pick.nil | apply Pick.cons (by repeat (first | with_reducible exact Sel.head | apply Sel.tail)))) (int_spec _ _ _ _ (by first | with_reducible exact vwb_nil _ | exact Vw.sep hF (by repeat (first | with_reducible exact Sel.head | apply Sel.tail)) | exact Vw.sep hG (by repeat (first | with_reducible exact Sel.head | apply Sel.tail)) | exact Vw.sep vw_bytes (by repeat (first | with_reducible exact Sel.head | apply Sel.tail))) h1 (by first | omega | (simp only [List.length_append, List.length_nil, List.length_cons]; omega))) ?_
  rintro v1 -
  try simp only [List.cons_append, List.nil_append]
  refine run_nil ?_
  refine St.then_n ?_
  refine any_next (by (apply Beh.keep (i := 4) (by kernel_rfl) rfl (rd_load_row (vs := [_, _, _, _, _, _, _]) rfl row24 rfl (cells_pts (by repeat (first | with_reducible exact Sel.head | apply Sel.tail)) rfl))); (first | apply Beh.keep (i := 3) (by kernel_rfl) rfl (rd_fieldAddr0 rfl fld47_1) | apply Beh.keep (i := 3) (by kernel_rfl) rfl (rd_fieldAddr rfl fld47_1)); apply Beh.drop (i := 1) (by kernel_rfl); apply Beh.drop (i := 0) (by kernel_rfl); exact .nil) ?_
  refine any_run (j := 5) (by kernel_rfl) rfl ?_
  refine run_spec rfl (by decide) (by kernel_rfl) rfl (by repeat (first | exact Pick.nil | apply Pick.cons (by repeat (first | with_reducible exact Sel.head | apply Sel.tail)))) (putOp_spec _ _ _ op (by first | with_reducible exact vwb_nil _ | exact Vw.sep hF (by repeat (first | with_reducible exact Sel.head | apply Sel.tail)) | exact Vw.sep hG (by repeat (first | with_reducible exact Sel.head | apply Sel.tail)) | exact Vw.sep vw_bytes (by repeat (first | with_reducible exact Sel.head | apply Sel.tail))) h2 (by first | omega | (simp only [List.length_append, List.length_nil, List.length_cons]; omega))) ?_
  rintro v2 -
  try simp only [List.cons_append, List.nil_append]
  refine run_nil ?_
  refine St.then_n ?_
  refine any_next (by apply Beh.drop (i := 4) (by kernel_rfl); apply Beh.drop (i := 3) (by kernel_rfl); exact .nil) ?_
  refine any_take (i := 6) (by kernel_rfl) rfl rfl (by decide) (fun _ _ _ _ _ h => h) rfl (rd_assign rfl) ?_
  refine any_nil (by kernel_rfl) ?_
  refine St.keep (β' := [(1, _), (3, _)]) ⟨rfl, rfl, trivial⟩ ?_
  refine St.then_n ?_
  refine do_seq ?_
  refine do_draw [[3, 6, 9, 10], [2, 3, 6, 9, 10], [3, 6, 9, 10], [6, 9, 10], [5, 6, 9, 10], [6, 9, 10], [9, 10], [8, 9, 10], [9, 10], [10], []] (by kernel_rfl) rfl ?_
  refine any_take (i := 0) (by kernel_rfl) rfl rfl (by decide) (fun _ _ _ _ _ h => h) rfl (rd_move rfl) ?_
  first | refine any_take (i := 1) (by kernel_rfl) rfl rfl (by decide) (fun _ _ _ _ _ h => h) rfl (rd_fieldAddr0 rfl fld47_2) ?_ | refine any_take (i := 1) (by kernel_rfl) rfl rfl (by decide) (fun _ _ _ _ _ h => h) rfl (rd_fieldAddr rfl fld47_2) ?_
  refine any_take (i := 2) (by kernel_rfl) rfl rfl (by decide) (fun _ _ _ _ _ h => h) rfl (rd_load rfl row9 (cells_pts1 (by repeat (first | with_reducible exact Sel.head | apply Sel.tail)) rfl)) ?_
  first | refine any_take (i := 4) (by kernel_rfl) rfl rfl (by decide) (fun _ _ _ _ _ h => h) rfl (rd_fieldAddr0 rfl fld47_3) ?_ | refine any_take (i := 4) (by kernel_rfl) rfl rfl (by decide) (fun _ _ _ _ _ h => h) rfl (rd_fieldAddr rfl fld47_3) ?_
  refine any_take (i := 5) (by kernel_rfl) rfl rfl (by decide) (fun _ _ _ _ _ h => h) rfl (rd_load rfl row9 (cells_pts1 (by repeat (first | with_reducible exact Sel.head | apply Sel.tail)) rfl)) ?_
  first | refine any_take (i := 7) (by kernel_rfl) rfl rfl (by decide) (fun _ _ _ _ _ h => h) rfl (rd_fieldAddr0 rfl fld47_4) ?_ | refine any_take (i := 7) (by kernel_rfl) rfl rfl (by decide) (fun _ _ _ _ _ h => h) rfl (rd_fieldAddr rfl fld47_4) ?_
  refine any_take (i := 8) (by kernel_rfl) rfl rfl (by decide) (fun _ _ _ _ _ h => h) rfl (rd_load rfl row2 (cells_pts1 (by repeat (first | with_reducible exact Sel.head | apply Sel.tail)) rfl)) ?_
  refine any_run (j := 3) (by kernel_rfl) rfl ?_
  refine run_spec rfl (by decide) (by kernel_rfl) rfl (by repeat (first | exact Pick.nil | apply Pick.cons (by repeat (first | with_reducible exact Sel.head | apply Sel.tail)))) (text_spec _ _ _ _ (by first | with_reducible exact vwb_nil _ | exact Vw.sep hF (by repeat (first | with_reducible exact Sel.head | apply Sel.tail)) | exact Vw.sep hG (by repeat (first | with_reducible exact Sel.head | apply Sel.tail)) | exact Vw.sep vw_bytes (by repeat (first | with_reducible exact Sel.head | apply Sel.tail))) h3 (by first | omega | (simp only [List.length_append, List.length_nil, List.length_cons]; omega))) ?_
  rintro v3 -
  try simp only [List.cons_append, List.nil_append]
  refine run_nil ?_
  refine St.then_n ?_
  refine any_next (by (apply Beh.keep (i := 8) (by kernel_rfl) rfl (rd_load rfl row2 (cells_pts1 (by repeat (first | with_reducible exact Sel.head | apply Sel.tail)) rfl))); (first | apply Beh.keep (i := 7) (by kernel_rfl) rfl (rd_fieldAddr0 rfl fld47_4) | apply Beh.keep (i := 7) (by kernel_rfl) rfl (rd_fieldAddr rfl fld47_4)); (apply Beh.keep (i := 5) (by kernel_rfl) rfl (rd_load rfl row9 (cells_pts1 (by repeat (first | with_reducible exact Sel.head | apply Sel.tail)) rfl))); (first | apply Beh.keep (i := 4) (by kernel_rfl) rfl (rd_fieldAddr0 rfl fld47_3) | apply Beh.keep (i := 4) (by kernel_rfl) rfl (rd_fieldAddr rfl fld47_3)); apply Beh.drop (i := 2) (by kernel_rfl); apply Beh.drop (i := 1) (by kernel_rfl); apply Beh.drop (i := 0) (by kernel_rfl); exact .nil) ?_
  refine any_run (j := 6) (by kernel_rfl) rfl ?_
  refine run_spec rfl (by decide) (by kernel_rfl) rfl (by repeat (first | exact Pick.nil | apply Pick.cons (by repeat (first | with_reducible exact Sel.head | apply Sel.tail)))) (text_spec _ _ _ _ (by first | with_reducible exact vwb_nil _ | exact Vw.sep hF (by repeat (first | with_reducible exact Sel.head | apply Sel.tail)) | exact Vw.sep hG (by repeat (first | with_reducible exact Sel.head | apply Sel.tail)) | exact Vw.sep vw_bytes (by repeat (first | with_reducible exact Sel.head | apply Sel.tail))) h4 (by first | omega | (simp only [List.length_append, List.length_nil, List.length_cons]; omega))) ?_
  rintro v4 -
  try simp only [List.cons_append, List.nil_append]
  refine run_nil ?_
  refine St.then_n ?_
  refine any_next (by (apply Beh.keep (i := 8) (by kernel_rfl) rfl (rd_load rfl row2 (cells_pts1 (by repeat (first | with_reducible exact Sel.head | apply Sel.tail)) rfl))); (first | apply Beh.keep (i := 7) (by kernel_rfl) rfl (rd_fieldAddr0 rfl fld47_4) | apply Beh.keep (i := 7) (by kernel_rfl) rfl (rd_fieldAddr rfl fld47_4)); apply Beh.drop (i := 5) (by kernel_rfl); apply Beh.drop (i := 4) (by kernel_rfl); exact .nil) ?_
  refine any_run (j := 9) (by kernel_rfl) rfl ?_
  refine run_spec rfl (by decide) (by kernel_rfl) rfl (by repeat (first | exact Pick.nil | apply Pick.cons (by repeat (first | with_reducible exact Sel.head | apply Sel.tail)))) (int_spec _ _ _ _ (by first | with_reducible exact vwb_nil _ | exact Vw.sep hF (by repeat (first | with_reducible exact Sel.head | apply Sel.tail)) | exact Vw.sep hG (by repeat (first | with_reducible exact Sel.head | apply Sel.tail)) | exact Vw.sep vw_bytes (by repeat (first | with_reducible exact Sel.head | apply Sel.tail))) h5 (by first | omega | (simp only [List.length_append, List.length_nil, List.length_cons]; omega))) ?_
  rintro v5 -
  try simp only [List.cons_append, List.nil_append]
  refine run_nil ?_
  refine St.then_n ?_
  refine any_next (by apply Beh.drop (i := 8) (by kernel_rfl); apply Beh.drop (i := 7) (by kernel_rfl); exact .nil) ?_
  refine any_take (i := 10) (by kernel_rfl) rfl rfl (by decide) (fun _ _ _ _ _ h => h) rfl (rd_assign rfl) ?_
  refine any_nil (by kernel_rfl) ?_
  refine St.keep (β' := [(1, _), (3, _)]) ⟨rfl, rfl, trivial⟩ ?_
  refine St.then_n ?_
  refine do_seq ?_
  refine do_seq ?_
  refine do_region ?_
  first | refine run_read rfl (by decide) (fun _ => nofun) (rd_fieldAddr0 rfl fld47_5) ?_ | refine run_read rfl (by decide) (fun _ => nofun) (rd_fieldAddr rfl fld47_5) ?_
  refine run_read rfl (by decide) (fun _ => nofun) (rd_load rfl row25 (cells_pts1 (by repeat (first | with_reducible exact Sel.head | apply Sel.tail)) rfl)) ?_
  first | refine run_read rfl (by decide) (fun _ => nofun) (rd_fieldAddr0 rfl fld47_6) ?_ | refine run_read rfl (by decide) (fun _ => nofun) (rd_fieldAddr rfl fld47_6) ?_
  refine run_read rfl (by decide) (fun _ => nofun) (rd_load rfl row3 (cells_pts1 (by repeat (first | with_reducible exact Sel.head | apply Sel.tail)) rfl)) ?_
  first | refine run_read rfl (by decide) (fun _ => nofun) (rd_fieldAddr0 rfl fld47_7) ?_ | refine run_read rfl (by decide) (fun _ => nofun) (rd_fieldAddr rfl fld47_7) ?_
  refine run_read rfl (by decide) (fun _ => nofun) (rd_load rfl row2 (cells_pts1 (by repeat (first | with_reducible exact Sel.head | apply Sel.tail)) rfl)) ?_
  first | refine run_read rfl (by decide) (fun _ => nofun) (rd_fieldAddr0 rfl fld47_8) ?_ | refine run_read rfl (by decide) (fun _ => nofun) (rd_fieldAddr rfl fld47_8) ?_
  refine run_read rfl (by decide) (fun _ => nofun) (rd_load rfl row3 (cells_pts1 (by repeat (first | with_reducible exact Sel.head | apply Sel.tail)) rfl)) ?_
  refine run_buildSlice (l := [(Operand.tmp 23), (Operand.tmp 25), (Operand.tmp 27), (Operand.tmp 29)]) rfl (by decide) Try.underlying187 ei2 rfl rfl (by decide) (by decide) (fun b30 => ?_)
  simp only [joinL, cells_agg, cells_int, cells_bcell, cells_bool, cells_string, cells_pointer, cells_slice, cells_map, cells_func, List.cons_append, List.nil_append, List.append_nil]
  refine run_read rfl (by decide) (fun _ => nofun) (rd_len Try.underlying187 rfl) ?_
  refine run_read rfl (by decide) (fun _ => nofun) (rd_move rfl) ?_
  refine run_nil ?_
  refine St.keep (β' := [(1, _), (3, _), (30, _), (31, _), (32, _)]) ⟨rfl, rfl, rfl, rfl, rfl, trivial⟩ ?_
  refine St.then_n ?_
  refine do_block ?_
  refine do_loop (fun y : Nat × Value × List UInt8 => y.1 ≤ 4 ∧ y.2.2 = ivar kind ++ opB op ++ uvar id.length ++ id ++ uvar name.length ++ name ++ ivar n ++ ([why, slot, epoch, at_].take y.1).flatMap ivar ∧ y.2.2.length ≤ 8000000000000 + 10 * y.1)
    (fun y => [(1, .pointer (some ⟨b1, 0, none⟩)), (3, y.2.1), (30, .slice (some ⟨b30, 0, none⟩) 4 4), (31, .int .i64 (4 : Nat)), (32, .int .i64 y.1)])
    (fun y => [bytesO y.2.1 y.2.2, pts b30 2 [.int .i64 why, .int .i64 slot, .int .i64 epoch, .int .i64 at_], pts b1 47 (GCmd.L ⟨kind, op, id, name, n, why, slot, epoch, at_, last, Ad, cd, data⟩), F]) (fun y => 4 - y.1)
    (0, v5, ivar kind ++ opB op ++ uvar id.length ++ id ++ uvar name.length ++ name ++ ivar n) ⟨by omega, by simp, by simp only [List.length_append]; unfold txt at l3 l4; rw [List.length_append] at l3 l4; omega⟩ ⟨rfl, rfl, rfl, rfl, rfl, trivial⟩ (by repeat (first | exact Pick.nil | apply Pick.cons (by repeat (first | with_reducible exact Sel.head | apply Sel.tail)))) ?_
  rintro ⟨i, v6, bs⟩ ⟨hi, hbs, hbl⟩
  dsimp only at hi hbs hbl ⊢
  refine do_seq ?_
  refine do_region ?_
  refine run_read rfl (by decide) (fun _ => nofun) (rd_lt rfl rfl) ?_
  refine run_nil ?_
  refine St.then_n ?_
  refine do_seq ?_
  first | refine do_condp rfl (fun h33 => ?_) (fun h33 => ?_) | refine do_cond rfl (fun h33 => ?_) (fun h33 => ?_)
  · obtain ⟨e, he, hr, hs⟩ : ∃ e, ([Value.int .i64 why, .int .i64 slot, .int .i64 epoch, .int .i64 at_])[i]? = some (.int .i64 e) ∧ (-9223372036854775808 ≤ e ∧ e ≤ 9223372036854775807) ∧ ([why, slot, epoch, at_].take (i + 1)).flatMap ivar = ([why, slot, epoch, at_].take i).flatMap ivar ++ ivar e := by
      rcases i with _ | _ | _ | _ | i
      · exact ⟨_, rfl, h6, by simp⟩
      · exact ⟨_, rfl, h7, by simp⟩
      · exact ⟨_, rfl, h8, by simp⟩
      · exact ⟨_, rfl, h9, by simp⟩
      · omega
    have le := ivar_len hr
    refine do_skip ?_
    refine St.then_n ?_
    refine do_seq ?_
    refine do_block ?_
    refine do_seq ?_
    refine do_region ?_
    refine run_read rfl (by decide) (fun _ => nofun) ((rd_indexAddr Try.underlying187 ei2 rfl rfl (by omega) (by omega)).eq (show _ = Value.pointer (some ⟨b30, i, none⟩) by simp)) ?_
    refine run_read rfl (by decide) (fun _ => nofun) (rd_load rfl row2 (cells_pts1 (by repeat (first | with_reducible exact Sel.head | apply Sel.tail)) he)) ?_
    refine run_read rfl (by decide) (fun _ => nofun) (rd_assign rfl) ?_
    refine run_nil ?_
    refine St.then_n ?_
    refine do_region ?_
    refine run_read rfl (by decide) (fun _ => nofun) (rd_move rfl) ?_
    refine run_read rfl (by decide) (fun _ => nofun) (rd_move rfl) ?_
    refine run_spec rfl (by decide) (by kernel_rfl) rfl (by repeat (first | exact Pick.nil | apply Pick.cons (by repeat (first | with_reducible exact Sel.head | apply Sel.tail)))) (int_spec _ _ _ _ (by first | with_reducible exact vwb_nil _ | exact Vw.sep hF (by repeat (first | with_reducible exact Sel.head | apply Sel.tail)) | exact Vw.sep hG (by repeat (first | with_reducible exact Sel.head | apply Sel.tail)) | exact Vw.sep vw_bytes (by repeat (first | with_reducible exact Sel.head | apply Sel.tail))) hr (by omega)) ?_
    rintro v7 -
    try simp only [List.cons_append, List.nil_append]
    refine run_read rfl (by decide) (fun _ => nofun) (rd_assign rfl) ?_
    refine run_nil ?_
    refine St.keep (β' := [(1, _), (3, _), (30, _), (31, _), (32, _)]) ⟨rfl, rfl, rfl, rfl, rfl, trivial⟩ ?_
    refine St.blk_n ?_
    refine St.then_n ?_
    refine do_region ?_
    first | refine run_read rfl (by decide) (fun _ => nofun) ((rd_add rfl rfl).eq (congrArg (Value.int .i64) (IntWalk.i64_in _ (by omega)))) ?_ | refine run_read rfl (by decide) (fun _ => nofun) (rd_add rfl rfl) ?_
    refine run_read rfl (by decide) (fun _ => nofun) (rd_move rfl) ?_
    refine run_nil ?_
    refine St.then_n ?_
    exact loop_back (i + 1, v7, bs ++ ivar e) ⟨by dsimp only; omega, by dsimp only; rw [hbs, hs]; simp only [List.append_assoc], by dsimp only; rw [List.length_append]; omega⟩ (by dsimp only; omega) ⟨rfl, rfl, rfl, rfl, rfl, trivial⟩ (by repeat (first | exact Pick.nil | apply Pick.cons (by repeat (first | with_reducible exact Sel.head | apply Sel.tail))))
  · refine do_exit ?_
    refine St.then_x ?_
    refine St.then_x ?_
    refine St.blk_s ?_
    refine St.then_n ?_
    refine do_seq ?_
    refine do_draw [[3, 6, 7], [2, 3, 6, 7], [3, 6, 7], [6, 7], [5, 6, 7], [6, 7], [7], []] (by kernel_rfl) rfl ?_
    refine any_take (i := 0) (by kernel_rfl) rfl rfl (by decide) (fun _ _ _ _ _ h => h) rfl (rd_move rfl) ?_
    first | refine any_take (i := 1) (by kernel_rfl) rfl rfl (by decide) (fun _ _ _ _ _ h => h) rfl (rd_fieldAddr0 rfl fld47_9) ?_ | refine any_take (i := 1) (by kernel_rfl) rfl rfl (by decide) (fun _ _ _ _ _ h => h) rfl (rd_fieldAddr rfl fld47_9) ?_
    refine any_take (i := 2) (by kernel_rfl) rfl rfl (by decide) (fun _ _ _ _ _ h => h) rfl (rd_load rfl row4 (cells_pts1 (by repeat (first | with_reducible exact Sel.head | apply Sel.tail)) rfl)) ?_
    first | refine any_take (i := 4) (by kernel_rfl) rfl rfl (by decide) (fun _ _ _ _ _ h => h) rfl (rd_fieldAddr0 rfl fld47_10) ?_ | refine any_take (i := 4) (by kernel_rfl) rfl rfl (by decide) (fun _ _ _ _ _ h => h) rfl (rd_fieldAddr rfl fld47_10) ?_
    refine any_take (i := 5) (by kernel_rfl) rfl rfl (by decide) (fun _ _ _ _ _ h => h) rfl (rd_load rfl row26 (cells_pts1 (by repeat (first | with_reducible exact Sel.head | apply Sel.tail)) rfl)) ?_
    refine any_run (j := 3) (by kernel_rfl) rfl ?_
    refine run_spec rfl (by decide) (by kernel_rfl) rfl (by repeat (first | exact Pick.nil | apply Pick.cons (by repeat (first | with_reducible exact Sel.head | apply Sel.tail)))) (bool_spec _ _ _ _ (by first | with_reducible exact vwb_nil _ | exact Vw.sep hF (by repeat (first | with_reducible exact Sel.head | apply Sel.tail)) | exact Vw.sep hG (by repeat (first | with_reducible exact Sel.head | apply Sel.tail)) | exact Vw.sep vw_bytes (by repeat (first | with_reducible exact Sel.head | apply Sel.tail))) (by omega)) ?_
    rintro v8 -
    try simp only [List.cons_append, List.nil_append]
    refine run_nil ?_
    refine St.then_n ?_
    refine any_next (by (apply Beh.keep (i := 5) (by kernel_rfl) rfl (rd_load rfl row26 (cells_pts1 (by repeat (first | with_reducible exact Sel.head | apply Sel.tail)) rfl))); (first | apply Beh.keep (i := 4) (by kernel_rfl) rfl (rd_fieldAddr0 rfl fld47_10) | apply Beh.keep (i := 4) (by kernel_rfl) rfl (rd_fieldAddr rfl fld47_10)); apply Beh.drop (i := 2) (by kernel_rfl); apply Beh.drop (i := 1) (by kernel_rfl); apply Beh.drop (i := 0) (by kernel_rfl); exact .nil) ?_
    refine any_run (j := 6) (by kernel_rfl) rfl ?_
    refine run_spec rfl (by decide) (by kernel_rfl) rfl (by repeat (first | exact Pick.nil | apply Pick.cons (by repeat (first | with_reducible exact Sel.head | apply Sel.tail)))) (byt_spec _ _ _ _ data (by first | with_reducible exact vwb_nil _ | exact Vw.sep hF (by repeat (first | with_reducible exact Sel.head | apply Sel.tail)) | exact Vw.sep hG (by repeat (first | with_reducible exact Sel.head | apply Sel.tail)) | exact Vw.sep vw_bytes (by repeat (first | with_reducible exact Sel.head | apply Sel.tail))) (Vw.sep hF (by repeat (first | with_reducible exact Sel.head | apply Sel.tail))) h10 (by first | omega | (simp only [List.length_append, List.length_nil, List.length_cons]; omega))) ?_
    rintro v9 -
    try simp only [List.cons_append, List.nil_append]
    refine run_nil ?_
    refine St.then_n ?_
    refine any_next (by apply Beh.drop (i := 5) (by kernel_rfl); apply Beh.drop (i := 4) (by kernel_rfl); exact .nil) ?_
    refine any_take (i := 7) (by kernel_rfl) rfl rfl (by decide) (fun _ _ _ _ _ h => h) rfl (rd_assign rfl) ?_
    refine any_nil (by kernel_rfl) ?_
    refine St.keep (β' := [(2, _)]) ⟨rfl, trivial⟩ ?_
    refine St.then_n ?_
    refine do_ret ?_
    refine do_ret1 Try.results74 (res_tmp rfl) ?_
    intro w hw
    obtain rfl : i = 4 := by omega
    exact ⟨v9, trivial, rfl, hw.sub (.cons (sel_bytes (by repeat (first | with_reducible exact Sel.head | apply Sel.tail)) (by rw [hbs]; simp [cmdB, txt])) (.cons (by repeat (first | with_reducible exact Sel.head | apply Sel.tail)) .nil))⟩
structure GAsk where
  group : Int
  cmd : GCmd
abbrev GAsk.L (x : GAsk) : List Value := .int .i64 x.group :: x.cmd.L
structure GAsk.ok (x : GAsk) : Prop where
  group : i64r x.group
  cmd : x.cmd.ok
def askB (x : GAsk) : List UInt8 := ivar x.group ++ txt (cmdB x.cmd)
/-- What comes of bytes that may be too long. -/
def atMost (k : Nat) (b : List UInt8) : List UInt8 := if k < b.length then [] else b
def whyMost (k : Nat) (b : List UInt8) : Int := if k < b.length then 3 else 0
theorem long_no {k : Nat} {b : List UInt8} (h : ¬ k < b.length) : atMost k b = b ∧ whyMost k b = 0 := ⟨if_neg h, if_neg h⟩
theorem long_yes {k : Nat} {b : List UInt8} (h : k < b.length) : atMost k b = [] ∧ whyMost k b = 3 := ⟨if_pos h, if_pos h⟩
theorem txnBytes_spec (F : HP) (x : GAsk) (hF : VwB F x.cmd.v x.cmd.data) (hx : x.ok) (hl : (cmdB x.cmd).length ≤ 1099511627776) :
    Spec Try.prog 38 [.agg x.L.toArray] [] F (fun _ : Value => True) (fun v' => .tuple #[v', .int .i64 (whyMost 65536 (askB x))]) (fun v' => [bytesO v' (atMost 65536 (askB x))]) := by
  intro ω w hh
  refine enter Try.func38 rfl Try.ntmps38 rfl hh ?_
  simp only [List.nil_append, argsB]
  obtain ⟨group, cmd⟩ := x
  obtain ⟨h1, h2⟩ := hx
  dsimp only at h1 h2 hF hl ⊢
  have l1 := ivar_len h1
  have l2 := cmdB_len h2
  have l3 := uvar_len64 (n := (cmdB cmd).length) (by omega)
  obtain ⟨ab, hab⟩ : ∃ ab, askB ⟨group, cmd⟩ = ab := ⟨_, rfl⟩
  have hab' : ivar group ++ uvar (cmdB cmd).length ++ cmdB cmd = ab := by rw [← hab]; simp [askB, txt]
  rw [hab]
  unfold i64r at h1
  refine do_seq ?_
  refine do_region ?_
  refine run_box_row rfl (by decide) rfl (fun b1 => ?_)
  refine run_read rfl (by decide) (fun _ => nofun) (rd_assign rfl) ?_
  refine run_read rfl (by decide) (fun _ => nofun) (rd_assign rfl) ?_
  refine run_nil ?_
  refine St.then_n ?_
  refine do_seq ?_
  refine do_draw [[1, 2, 5, 6, 7], [2, 5, 6, 7], [5, 6, 7], [4, 5, 6, 7], [5, 6, 7], [6, 7], [7], []] (by kernel_rfl) rfl ?_
  first | refine any_take (i := 0) (by kernel_rfl) rfl rfl (by decide) (fun _ _ _ _ _ h => h) rfl (rd_fieldAddr0 rfl fld49_0) ?_ | refine any_take (i := 0) (by kernel_rfl) rfl rfl (by decide) (fun _ _ _ _ _ h => h) rfl (rd_fieldAddr rfl fld49_0) ?_
  refine any_take (i := 1) (by kernel_rfl) rfl rfl (by decide) (fun _ _ _ _ _ h => h) rfl (rd_load rfl row3 (cells_pts1 (by repeat (first | with_reducible exact Sel.head | apply Sel.tail)) rfl)) ?_
  first | refine any_take (i := 3) (by kernel_rfl) rfl rfl (by decide) (fun _ _ _ _ _ h => h) rfl (rd_fieldAddr0 rfl fld49_1) ?_ | refine any_take (i := 3) (by kernel_rfl) rfl rfl (by decide) (fun _ _ _ _ _ h => h) rfl (rd_fieldAddr rfl fld49_1) ?_
  refine any_take (i := 4) (by kernel_rfl) rfl rfl (by decide) (fun _ _ _ _ _ h => h) rfl (rd_load_row (vs := [_, _, _, _, _, _, _, _, _, _, _, _, _, _, _, _, _]) rfl row47 rfl (cells_pts (by repeat (first | with_reducible exact Sel.head | apply Sel.tail)) rfl)) ?_
  refine any_run (j := 2) (by kernel_rfl) rfl ?_
  refine run_spec rfl (by decide) (by kernel_rfl) rfl (by repeat (first | exact Pick.nil | apply Pick.cons (by repeat (first | with_reducible exact Sel.head | apply Sel.tail)))) (int_spec _ _ _ _ (by first | with_reducible exact vwb_nil _ | exact Vw.sep hF (by repeat (first | with_reducible exact Sel.head | apply Sel.tail)) | exact Vw.sep hG (by repeat (first | with_reducible exact Sel.head | apply Sel.tail)) | exact Vw.sep vw_bytes (by repeat (first | with_reducible exact Sel.head | apply Sel.tail))) h1 (by first | omega | (simp only [List.length_append, List.length_nil, List.length_cons]; omega))) ?_
  rintro v1 -
  try simp only [List.cons_append, List.nil_append]
  refine run_nil ?_
  refine St.then_n ?_
  refine any_next (by (apply Beh.keep (i := 4) (by kernel_rfl) rfl (rd_load_row (vs := [_, _, _, _, _, _, _, _, _, _, _, _, _, _, _, _, _]) rfl row47 rfl (cells_pts (by repeat (first | with_reducible exact Sel.head | apply Sel.tail)) rfl))); (first | apply Beh.keep (i := 3) (by kernel_rfl) rfl (rd_fieldAddr0 rfl fld49_1) | apply Beh.keep (i := 3) (by kernel_rfl) rfl (rd_fieldAddr rfl fld49_1)); apply Beh.drop (i := 1) (by kernel_rfl); apply Beh.drop (i := 0) (by kernel_rfl); exact .nil) ?_
  refine any_run (j := 5) (by kernel_rfl) rfl ?_
  refine run_spec rfl (by decide) (by kernel_rfl) rfl (by repeat (first | exact Pick.nil | apply Pick.cons (by repeat (first | with_reducible exact Sel.head | apply Sel.tail)))) (shardBytes_spec _ cmd (Vw.sep hF (by repeat (first | with_reducible exact Sel.head | apply Sel.tail))) h2) ?_
  rintro v2 -
  try simp only [List.cons_append, List.nil_append]
  refine run_nil ?_
  refine St.then_n ?_
  refine any_next (by apply Beh.drop (i := 4) (by kernel_rfl); apply Beh.drop (i := 3) (by kernel_rfl); exact .nil) ?_
  refine any_run (j := 6) (by kernel_rfl) rfl ?_
  refine run_spec rfl (by decide) (by kernel_rfl) rfl (by repeat (first | exact Pick.nil | apply Pick.cons (by repeat (first | with_reducible exact Sel.head | apply Sel.tail)))) (byt_spec _ _ _ _ (cmdB cmd) (Vw.sep vw_bytes (by repeat (first | with_reducible exact Sel.head | apply Sel.tail))) (Vw.sep vw_bytes (by repeat (first | with_reducible exact Sel.head | apply Sel.tail))) hl (by omega)) ?_
  rintro v3 -
  rw [hab']
  refine St.vw vw_bytes .head (fun A c hv _ _ _ => ?_)
  subst hv
  try simp only [List.cons_append, List.nil_append]
  refine run_nil ?_
  refine St.then_n ?_
  refine any_next (by exact .nil) ?_
  refine any_take (i := 7) (by kernel_rfl) rfl rfl (by decide) (fun _ _ _ _ _ h => h) rfl (rd_assign rfl) ?_
  refine any_nil (by kernel_rfl) ?_
  refine St.keep (β' := [(4, _)]) ⟨rfl, trivial⟩ ?_
  refine St.then_n ?_
  refine do_seq ?_
  refine do_seq ?_
  refine do_region ?_
  refine run_read rfl (by decide) (fun _ => nofun) (rd_move rfl) ?_
  refine run_read rfl (by decide) (fun _ => nofun) (rd_len Try.underlying26 rfl) ?_
  refine run_read rfl (by decide) (fun _ => nofun) (rd_gt rfl rfl) ?_
  refine run_nil ?_
  refine St.then_n ?_
  first | refine do_condp rfl (fun h14 => ?_) (fun h14 => ?_) | refine do_cond rfl (fun h14 => ?_) (fun h14 => ?_)
  · refine do_seq ?_
    refine do_region ?_
    refine run_read rfl (by decide) (fun _ => nofun) (rd_assign rfl) ?_
    refine run_read rfl (by decide) (fun _ => nofun) (rd_assign rfl) ?_
    refine run_nil ?_
    refine St.keep (β' := [(2, _), (3, _)]) ⟨rfl, rfl, trivial⟩ ?_
    refine St.then_n ?_
    refine do_ret ?_
    refine St.then_r ?_
    refine do_ret2 Try.results38 (res_tmp rfl) (res_tmp rfl) ?_
    intro w hw
    obtain ⟨e1, e2⟩ := long_yes (k := 65536) (b := ab) (by omega)
    rw [e1, e2]
    exact ⟨_, trivial, rfl, Holds.own_nil (hw.sub (by repeat (first | exact Pick.nil | apply Pick.cons (by repeat (first | with_reducible exact Sel.head | apply Sel.tail)))))⟩
  · refine do_skip ?_
    refine St.then_n ?_
    refine do_seq ?_
    refine do_region ?_
    refine run_read rfl (by decide) (fun _ => nofun) (rd_move rfl) ?_
    refine run_read rfl (by decide) (fun _ => nofun) (rd_assign rfl) ?_
    refine run_read rfl (by decide) (fun _ => nofun) (rd_assign rfl) ?_
    refine run_nil ?_
    refine St.keep (β' := [(2, _), (3, _)]) ⟨rfl, rfl, trivial⟩ ?_
    refine St.then_n ?_
    refine do_ret ?_
    refine do_ret2 Try.results38 (res_tmp rfl) (res_tmp rfl) ?_
    intro w hw
    obtain ⟨e1, e2⟩ := long_no (k := 65536) (b := ab) (by omega)
    rw [e1, e2]
    exact ⟨_, trivial, rfl, hw.sub (by repeat (first | exact Pick.nil | apply Pick.cons (by repeat (first | with_reducible exact Sel.head | apply Sel.tail))))⟩
end Go.Proofs.Ytglcmlicfmmlpaa
