/-
  Replies, results as bytes: what the program makes.
-/
import Derived.Test.YtglcmlicfmmlpaaC3
namespace Go.Proofs.Ytglcmlicfmmlpaa
open Go.RowKit
set_option linter.unusedSimpArgs false
set_option linter.unusedVariables false

structure GRow where
  name : List UInt8
  amount : Int
abbrev rowC (r : GRow) : List Value := [.string (strOf r.name), .int .i64 r.amount]
def rowB (r : GRow) : List UInt8 := txt r.name ++ ivar r.amount
structure GReply where
  why : Int
  amount : Int
  A : Option Addr
  c : Nat
  rows : List GRow
abbrev GReply.v (x : GReply) : Value := .slice x.A x.rows.length x.c
abbrev GReply.L (x : GReply) : List Value := [.int .i64 x.why, .int .i64 x.amount, x.v]
structure GReply.ok (x : GReply) : Prop where
  why : i64r x.why
  amount : i64r x.amount
  rows : ∀ r ∈ x.rows, shortS r.name ∧ i64r r.amount
  bulk : (x.rows.flatMap rowB).length ≤ 8796093022208
/-- The rows can be read. -/
def VwRows (F : HP) (x : GReply) : Prop := Vw F x.v 2 x.rows.length (x.rows.flatMap rowC)
def replyB (x : GReply) : List UInt8 := ivar x.why ++ ivar x.amount ++ uvar x.rows.length ++ x.rows.flatMap rowB
set_option maxRecDepth 4000 in
theorem putReply_spec (F : HP) (v : Value) (bs : List UInt8) (x : GReply) (hF : VwB F v bs) (hR : VwRows F x) (hx : x.ok) (hl : bs.length ≤ 8796093022208) :
    Spec Try.prog 78 [v, .agg x.L.toArray] [] F (fun _ : Value => True) (fun v' => v') (fun v' => [bytesO v' (bs ++ replyB x)]) := by
  intro ω w hh
  refine enter Try.func78 rfl Try.ntmps78 rfl hh ?_
  simp only [List.nil_append, argsB]
  obtain ⟨why, amount, A, c, rows⟩ := x
  obtain ⟨h1, h2, h3, h4⟩ := hx
  replace hR : Vw F (.slice A rows.length c) 2 rows.length (rows.flatMap rowC) := hR
  simp only [GReply.L, GReply.v]
  dsimp only at h1 h2 h3 h4
  refine St.vw hR .head (fun A' c' hv hc hm _ => ?_)
  cases hv
  have hn : rows.length ≤ 9223372036854775807 := by simp only [maxLen] at hm; omega
  have l1 := ivar_len h1
  have l2 := ivar_len h2
  have l3 := uvar_len64 (n := rows.length) (by omega)
  unfold i64r shortS at *
  refine do_seq ?_
  refine do_region ?_
  refine run_box_row rfl (by decide) rfl (fun b3 => ?_)
  refine run_read rfl (by decide) (fun _ => nofun) (rd_assign rfl) ?_
  refine run_nil ?_
  refine St.then_n ?_
  refine do_seq ?_
  refine do_draw [[3, 6, 11, 12], [2, 3, 6, 11, 12], [3, 6, 11, 12], [6, 11, 12], [5, 6, 11, 12], [6, 11, 12], [11, 12], [8, 9, 10, 11, 12], [9, 10, 11, 12], [10, 11, 12], [11, 12], [12], []] (by kernel_rfl) rfl ?_
  refine any_take (i := 0) (by kernel_rfl) rfl rfl (by decide) (fun _ _ _ _ _ h => h) rfl (rd_move rfl) ?_
  first | refine any_take (i := 1) (by kernel_rfl) rfl rfl (by decide) (fun _ _ _ _ _ h => h) rfl (rd_fieldAddr0 rfl fld33_0) ?_ | refine any_take (i := 1) (by kernel_rfl) rfl rfl (by decide) (fun _ _ _ _ _ h => h) rfl (rd_fieldAddr rfl fld33_0) ?_
  refine any_take (i := 2) (by kernel_rfl) rfl rfl (by decide) (fun _ _ _ _ _ h => h) rfl (rd_load rfl row25 (cells_pts1 (by repeat (first | with_reducible exact Sel.head | apply Sel.tail)) rfl)) ?_
  first | refine any_take (i := 4) (by kernel_rfl) rfl rfl (by decide) (fun _ _ _ _ _ h => h) rfl (rd_fieldAddr0 rfl fld33_1) ?_ | refine any_take (i := 4) (by kernel_rfl) rfl rfl (by decide) (fun _ _ _ _ _ h => h) rfl (rd_fieldAddr rfl fld33_1) ?_
  refine any_take (i := 5) (by kernel_rfl) rfl rfl (by decide) (fun _ _ _ _ _ h => h) rfl (rd_load rfl row2 (cells_pts1 (by repeat (first | with_reducible exact Sel.head | apply Sel.tail)) rfl)) ?_
  first | refine any_take (i := 7) (by kernel_rfl) rfl rfl (by decide) (fun _ _ _ _ _ h => h) rfl (rd_fieldAddr0 rfl fld33_2) ?_ | refine any_take (i := 7) (by kernel_rfl) rfl rfl (by decide) (fun _ _ _ _ _ h => h) rfl (rd_fieldAddr rfl fld33_2) ?_
  refine any_take (i := 8) (by kernel_rfl) rfl rfl (by decide) (fun _ _ _ _ _ h => h) rfl (rd_load rfl row31 (cells_pts1 (by repeat (first | with_reducible exact Sel.head | apply Sel.tail)) rfl)) ?_
  refine any_take (i := 9) (by kernel_rfl) rfl rfl (by decide) (fun _ _ _ _ _ h => h) rfl (rd_len Try.underlying31 rfl) ?_
  first | refine any_take (i := 10) (by kernel_rfl) rfl rfl (by decide) (fun _ _ _ _ _ h => h) rfl ((rd_conv Try.underlying3 Try.underlying183 rfl).eq (congrArg (Value.int .u64) (IntWalk.u64_in _ (by omega)))) ?_ | refine any_take (i := 10) (by kernel_rfl) rfl rfl (by decide) (fun _ _ _ _ _ h => h) rfl (rd_conv Try.underlying3 Try.underlying183 rfl) ?_
  refine any_run (j := 3) (by kernel_rfl) rfl ?_
  refine run_spec rfl (by decide) (by kernel_rfl) rfl (by repeat (first | exact Pick.nil | apply Pick.cons (by repeat (first | with_reducible exact Sel.head | apply Sel.tail)))) (int_spec _ _ _ _ (by first | with_reducible exact vwb_nil _ | exact Vw.sep hF (by repeat (first | with_reducible exact Sel.head | apply Sel.tail)) | exact Vw.sep hG (by repeat (first | with_reducible exact Sel.head | apply Sel.tail)) | exact Vw.sep vw_bytes (by repeat (first | with_reducible exact Sel.head | apply Sel.tail))) h1 (by first | omega | (simp only [List.length_append, List.length_nil, List.length_cons]; omega))) ?_
  rintro v1 -
  try simp only [List.cons_append, List.nil_append]
  refine run_nil ?_
  refine St.then_n ?_
  refine any_next (by (first | apply Beh.keep (i := 10) (by kernel_rfl) rfl ((rd_conv Try.underlying3 Try.underlying183 rfl).eq (congrArg (Value.int .u64) (IntWalk.u64_in _ (by omega)))) | apply Beh.keep (i := 10) (by kernel_rfl) rfl (rd_conv Try.underlying3 Try.underlying183 rfl)); apply Beh.keep (i := 9) (by kernel_rfl) rfl (rd_len Try.underlying31 rfl); (apply Beh.keep (i := 8) (by kernel_rfl) rfl (rd_load rfl row31 (cells_pts1 (by repeat (first | with_reducible exact Sel.head | apply Sel.tail)) rfl))); (first | apply Beh.keep (i := 7) (by kernel_rfl) rfl (rd_fieldAddr0 rfl fld33_2) | apply Beh.keep (i := 7) (by kernel_rfl) rfl (rd_fieldAddr rfl fld33_2)); (apply Beh.keep (i := 5) (by kernel_rfl) rfl (rd_load rfl row2 (cells_pts1 (by repeat (first | with_reducible exact Sel.head | apply Sel.tail)) rfl))); (first | apply Beh.keep (i := 4) (by kernel_rfl) rfl (rd_fieldAddr0 rfl fld33_1) | apply Beh.keep (i := 4) (by kernel_rfl) rfl (rd_fieldAddr rfl fld33_1)); apply Beh.drop (i := 2) (by kernel_rfl); apply Beh.drop (i := 1) (by kernel_rfl); apply Beh.drop (i := 0) (by kernel_rfl); exact .nil) ?_
  refine any_run (j := 6) (by kernel_rfl) rfl ?_
  refine run_spec rfl (by decide) (by kernel_rfl) rfl (by repeat (first | exact Pick.nil | apply Pick.cons (by repeat (first | with_reducible exact Sel.head | apply Sel.tail)))) (int_spec _ _ _ _ (by first | with_reducible exact vwb_nil _ | exact Vw.sep hF (by repeat (first | with_reducible exact Sel.head | apply Sel.tail)) | exact Vw.sep hG (by repeat (first | with_reducible exact Sel.head | apply Sel.tail)) | exact Vw.sep vw_bytes (by repeat (first | with_reducible exact Sel.head | apply Sel.tail))) h2 (by first | omega | (simp only [List.length_append, List.length_nil, List.length_cons]; omega))) ?_
  rintro v2 -
  try simp only [List.cons_append, List.nil_append]
  refine run_nil ?_
  refine St.then_n ?_
  refine any_next (by (first | apply Beh.keep (i := 10) (by kernel_rfl) rfl ((rd_conv Try.underlying3 Try.underlying183 rfl).eq (congrArg (Value.int .u64) (IntWalk.u64_in _ (by omega)))) | apply Beh.keep (i := 10) (by kernel_rfl) rfl (rd_conv Try.underlying3 Try.underlying183 rfl)); apply Beh.keep (i := 9) (by kernel_rfl) rfl (rd_len Try.underlying31 rfl); (apply Beh.keep (i := 8) (by kernel_rfl) rfl (rd_load rfl row31 (cells_pts1 (by repeat (first | with_reducible exact Sel.head | apply Sel.tail)) rfl))); (first | apply Beh.keep (i := 7) (by kernel_rfl) rfl (rd_fieldAddr0 rfl fld33_2) | apply Beh.keep (i := 7) (by kernel_rfl) rfl (rd_fieldAddr rfl fld33_2)); apply Beh.drop (i := 5) (by kernel_rfl); apply Beh.drop (i := 4) (by kernel_rfl); exact .nil) ?_
  refine any_run (j := 11) (by kernel_rfl) rfl ?_
  refine run_spec rfl (by decide) (by kernel_rfl) rfl (by repeat (first | exact Pick.nil | apply Pick.cons (by repeat (first | with_reducible exact Sel.head | apply Sel.tail)))) (uint_spec _ _ _ rows.length (by first | with_reducible exact vwb_nil _ | exact Vw.sep hF (by repeat (first | with_reducible exact Sel.head | apply Sel.tail)) | exact Vw.sep hG (by repeat (first | with_reducible exact Sel.head | apply Sel.tail)) | exact Vw.sep vw_bytes (by repeat (first | with_reducible exact Sel.head | apply Sel.tail))) (by omega) (by first | omega | (simp only [List.length_append, List.length_nil, List.length_cons]; omega))) ?_
  rintro v3 -
  try simp only [List.cons_append, List.nil_append]
  refine run_nil ?_
  refine St.then_n ?_
  refine any_next (by apply Beh.drop (i := 10) (by kernel_rfl); apply Beh.drop (i := 9) (by kernel_rfl); apply Beh.drop (i := 8) (by kernel_rfl); apply Beh.drop (i := 7) (by kernel_rfl); exact .nil) ?_
  refine any_take (i := 12) (by kernel_rfl) rfl rfl (by decide) (fun _ _ _ _ _ h => h) rfl (rd_assign rfl) ?_
  refine any_nil (by kernel_rfl) ?_
  refine St.keep (β' := [(0, _), (3, _)]) ⟨rfl, rfl, trivial⟩ ?_
  refine St.then_n ?_
  refine do_seq ?_
  refine do_seq ?_
  refine do_region ?_
  first | refine run_read rfl (by decide) (fun _ => nofun) (rd_fieldAddr0 rfl fld33_2) ?_ | refine run_read rfl (by decide) (fun _ => nofun) (rd_fieldAddr rfl fld33_2) ?_
  refine run_read rfl (by decide) (fun _ => nofun) (rd_load rfl row31 (cells_pts1 (by repeat (first | with_reducible exact Sel.head | apply Sel.tail)) rfl)) ?_
  refine run_read rfl (by decide) (fun _ => nofun) (rd_len Try.underlying31 rfl) ?_
  refine run_read rfl (by decide) (fun _ => nofun) (rd_move rfl) ?_
  refine run_nil ?_
  refine St.then_n ?_
  refine do_block ?_
  refine do_loop (fun y : Nat × Value => y.1 ≤ rows.length)
    (fun y => [(0, y.2), (20, .slice A rows.length c), (21, .int .i64 rows.length), (22, .int .i64 y.1)])
    (fun y => [bytesO y.2 (bs ++ ivar why ++ ivar amount ++ uvar rows.length ++ (rows.take y.1).flatMap rowB), F]) (fun y => rows.length - y.1)
    (0, v3) (Nat.zero_le _) ⟨rfl, rfl, rfl, rfl, trivial⟩ (by simp only [List.take_zero, List.flatMap_nil, List.append_nil]; exact (by repeat (first | exact Pick.nil | apply Pick.cons (by repeat (first | with_reducible exact Sel.head | apply Sel.tail))))) ?_
  rintro ⟨i, v4⟩ hi
  dsimp only at hi ⊢
  have hle := flat_take_le rowB rows i
  refine do_seq ?_
  refine do_region ?_
  refine run_read rfl (by decide) (fun _ => nofun) (rd_lt rfl rfl) ?_
  refine run_nil ?_
  refine St.then_n ?_
  refine do_seq ?_
  first | refine do_condp rfl (fun h23 => ?_) (fun h23 => ?_) | refine do_cond rfl (fun h23 => ?_) (fun h23 => ?_)
  · have hx := List.getElem?_eq_getElem (l := rows) (i := i) (by omega)
    have hxm := List.mem_of_getElem? hx
    generalize rows[i]'_ = x at hx hxm
    obtain ⟨hx1, hx2⟩ := h3 x hxm
    have hcell := flat_at (f := rowC) (k := 2) (fun _ => rfl) hx
    have hsucc := flat_take_succ rowB hx
    have hle2 := flat_take_le rowB rows (i + 1)
    rw [hsucc, List.length_append] at hle2
    have hxb : (rowB x).length = (uvar x.name.length).length + x.name.length + (ivar x.amount).length := by simp [rowB, txt]; omega
    refine St.vw_some hR (by repeat (first | with_reducible exact Sel.head | apply Sel.tail)) (by omega) (fun g of hg _ _ => ?_)
    subst hg
    refine do_skip ?_
    refine St.then_n ?_
    refine do_seq ?_
    refine do_block ?_
    refine do_seq ?_
    refine do_region ?_
    refine run_read rfl (by decide) (fun _ => nofun) (rd_indexAddr Try.underlying31 ei108 rfl rfl (by omega) (by omega)) ?_
    refine run_read rfl (by decide) (fun _ => nofun) (rd_load_row rfl row108 rfl (Vw.cells (vs := rowC x) hR (by repeat (first | with_reducible exact Sel.head | apply Sel.tail)) (by omega) hcell)) ?_
    refine run_alloc rfl (by decide) zero108 (fun b6 => ?_)
    first | refine run_store_all rfl rfl rfl (by repeat (first | with_reducible exact Sel.head | apply Sel.tail)) row108 rfl rfl rfl ?_ | refine run_store_mid rfl rfl rfl (by repeat (first | with_reducible exact Sel.head | apply Sel.tail)) row108 rfl rfl rfl (by simp only [setL, List.length_cons, List.length_nil, Nat.reduceAdd, List.take_succ_cons, List.take_zero, List.drop_succ_cons, List.drop_zero, List.cons_append, List.nil_append, List.append_nil]; exact rfl) ?_
    refine run_nil ?_
    refine St.then_n ?_
    refine do_draw [[3, 6, 7], [2, 3, 6, 7], [3, 6, 7], [6, 7], [5, 6, 7], [6, 7], [7], []] (by kernel_rfl) rfl ?_
    refine any_take (i := 0) (by kernel_rfl) rfl rfl (by decide) (fun _ _ _ _ _ h => h) rfl (rd_move rfl) ?_
    first | refine any_take (i := 1) (by kernel_rfl) rfl rfl (by decide) (fun _ _ _ _ _ h => h) rfl (rd_fieldAddr0 rfl fld108_0) ?_ | refine any_take (i := 1) (by kernel_rfl) rfl rfl (by decide) (fun _ _ _ _ _ h => h) rfl (rd_fieldAddr rfl fld108_0) ?_
    refine any_take (i := 2) (by kernel_rfl) rfl rfl (by decide) (fun _ _ _ _ _ h => h) rfl (rd_load rfl row9 (cells_pts1 (by repeat (first | with_reducible exact Sel.head | apply Sel.tail)) rfl)) ?_
    first | refine any_take (i := 4) (by kernel_rfl) rfl rfl (by decide) (fun _ _ _ _ _ h => h) rfl (rd_fieldAddr0 rfl fld108_1) ?_ | refine any_take (i := 4) (by kernel_rfl) rfl rfl (by decide) (fun _ _ _ _ _ h => h) rfl (rd_fieldAddr rfl fld108_1) ?_
    refine any_take (i := 5) (by kernel_rfl) rfl rfl (by decide) (fun _ _ _ _ _ h => h) rfl (rd_load rfl row2 (cells_pts1 (by repeat (first | with_reducible exact Sel.head | apply Sel.tail)) rfl)) ?_
    refine any_run (j := 3) (by kernel_rfl) rfl ?_
    refine run_spec rfl (by decide) (by kernel_rfl) rfl (by repeat (first | exact Pick.nil | apply Pick.cons (by repeat (first | with_reducible exact Sel.head | apply Sel.tail)))) (text_spec _ _ _ _ (by first | with_reducible exact vwb_nil _ | exact Vw.sep hF (by repeat (first | with_reducible exact Sel.head | apply Sel.tail)) | exact Vw.sep hG (by repeat (first | with_reducible exact Sel.head | apply Sel.tail)) | exact Vw.sep vw_bytes (by repeat (first | with_reducible exact Sel.head | apply Sel.tail))) hx1 (by first | omega | (simp only [List.length_append, List.length_nil, List.length_cons]; omega))) ?_
    rintro v5 -
    try simp only [List.cons_append, List.nil_append]
    refine run_nil ?_
    refine St.then_n ?_
    refine any_next (by (apply Beh.keep (i := 5) (by kernel_rfl) rfl (rd_load rfl row2 (cells_pts1 (by repeat (first | with_reducible exact Sel.head | apply Sel.tail)) rfl))); (first | apply Beh.keep (i := 4) (by kernel_rfl) rfl (rd_fieldAddr0 rfl fld108_1) | apply Beh.keep (i := 4) (by kernel_rfl) rfl (rd_fieldAddr rfl fld108_1)); apply Beh.drop (i := 2) (by kernel_rfl); apply Beh.drop (i := 1) (by kernel_rfl); apply Beh.drop (i := 0) (by kernel_rfl); exact .nil) ?_
    refine any_run (j := 6) (by kernel_rfl) rfl ?_
    refine run_spec rfl (by decide) (by kernel_rfl) rfl (by repeat (first | exact Pick.nil | apply Pick.cons (by repeat (first | with_reducible exact Sel.head | apply Sel.tail)))) (int_spec _ _ _ _ (by first | with_reducible exact vwb_nil _ | exact Vw.sep hF (by repeat (first | with_reducible exact Sel.head | apply Sel.tail)) | exact Vw.sep hG (by repeat (first | with_reducible exact Sel.head | apply Sel.tail)) | exact Vw.sep vw_bytes (by repeat (first | with_reducible exact Sel.head | apply Sel.tail))) hx2 (by first | omega | (simp only [List.length_append, List.length_nil, List.length_cons]; omega))) ?_
    rintro v6 -
    try simp only [List.cons_append, List.nil_append]
    refine run_nil ?_
    refine St.then_n ?_
    refine any_next (by apply Beh.drop (i := 5) (by kernel_rfl); apply Beh.drop (i := 4) (by kernel_rfl); exact .nil) ?_
    refine any_take (i := 7) (by kernel_rfl) rfl rfl (by decide) (fun _ _ _ _ _ h => h) rfl (rd_assign rfl) ?_
    refine any_nil (by kernel_rfl) ?_
    refine St.keep (β' := [(0, _), (20, _), (21, _), (22, _)]) ⟨rfl, rfl, rfl, rfl, trivial⟩ ?_
    refine St.blk_n ?_
    refine St.then_n ?_
    refine do_region ?_
    first | refine run_read rfl (by decide) (fun _ => nofun) ((rd_add rfl rfl).eq (congrArg (Value.int .i64) (IntWalk.i64_in _ (by omega)))) ?_ | refine run_read rfl (by decide) (fun _ => nofun) (rd_add rfl rfl) ?_
    refine run_read rfl (by decide) (fun _ => nofun) (rd_move rfl) ?_
    refine run_nil ?_
    refine St.then_n ?_
    refine loop_back (i + 1, v6) (by dsimp only; omega) (by dsimp only; omega) ⟨rfl, rfl, rfl, rfl, trivial⟩ (.cons (sel_bytes (by repeat (first | with_reducible exact Sel.head | apply Sel.tail)) ?_) (.cons (by repeat (first | with_reducible exact Sel.head | apply Sel.tail)) .nil))
    dsimp only
    rw [hsucc]
    simp [rowB, txt]
  · refine do_exit ?_
    refine St.then_x ?_
    refine St.then_x ?_
    refine St.blk_s ?_
    refine St.then_n ?_
    refine do_seq ?_
    refine do_region ?_
    refine run_read rfl (by decide) (fun _ => nofun) (rd_move rfl) ?_
    refine run_read rfl (by decide) (fun _ => nofun) (rd_assign rfl) ?_
    refine run_nil ?_
    refine St.keep (β' := [(4, _)]) ⟨rfl, trivial⟩ ?_
    refine St.then_n ?_
    refine do_ret ?_
    refine do_ret1 Try.results78 (res_tmp rfl) ?_
    intro w hw
    have e : rows.take i = rows := List.take_of_length_le (by omega)
    exact ⟨v4, trivial, rfl, hw.sub (.cons (sel_bytes (by repeat (first | with_reducible exact Sel.head | apply Sel.tail)) (by rw [e]; simp [replyB])) (.cons (by repeat (first | with_reducible exact Sel.head | apply Sel.tail)) .nil))⟩
structure GRes where
  why : Int
  wait : Bool
  reply : GReply
  A : Option Addr
  c : Nat
  data : List UInt8
abbrev GRes.v (x : GRes) : Value := .slice x.A x.data.length x.c
abbrev GRes.L (x : GRes) : List Value := [.int .i64 x.why, .bool x.wait, .int .i64 x.reply.why, .int .i64 x.reply.amount, x.reply.v, x.v]
structure GRes.ok (x : GRes) : Prop where
  why : i64r x.why
  reply : x.reply.ok
  data : shortS x.data
def resB (x : GRes) : List UInt8 := ivar x.why ++ uvar (bnat x.wait) ++ replyB x.reply ++ txt x.data
def resOut (x : GRes) : List UInt8 := if 65536 < x.data.length ∨ 600 < x.reply.rows.length then [] else atMost 1048576 (resB x)
def resWhy (x : GRes) : Int := if 65536 < x.data.length ∨ 600 < x.reply.rows.length then 3 else whyMost 1048576 (resB x)
theorem replyB_len {x : GReply} (h : x.ok) (hn : x.rows.length ≤ 9223372036854775807) : (replyB x).length ≤ 8796093022238 := by
  have := ivar_len h.why
  have := ivar_len h.amount
  have := uvar_len64 (n := x.rows.length) (by omega)
  have := h.bulk
  unfold replyB
  simp only [List.length_append]; omega
set_option maxRecDepth 4000 in
theorem putResult_spec (F : HP) (x : GRes) (hF : VwB F x.v x.data) (hR : VwRows F x.reply) (hx : x.ok) :
    Spec Try.prog 40 [.agg x.L.toArray] [] F (fun _ : Value => True) (fun v' => .tuple #[v', .int .i64 (resWhy x)]) (fun v' => [bytesO v' (resOut x)]) := by
  intro ω w hh
  refine enter Try.func40 rfl Try.ntmps40 rfl hh ?_
  simp only [List.nil_append, argsB]
  obtain ⟨why, wait, reply, A, c, data⟩ := x
  obtain ⟨h1, h2, h3⟩ := hx
  dsimp only at h1 h2 h3 hF hR
  simp only [GRes.L, GRes.v] at hF ⊢
  refine St.vw hR .head (fun A' c' hv hc hm _ => ?_)
  have hn : reply.rows.length ≤ 9223372036854775807 := by simp only [maxLen] at hm; omega
  have l1 := ivar_len h1
  have l2 := uvar_len64 (n := bnat wait) (by unfold bnat; split <;> decide)
  have l3 := replyB_len h2 hn
  obtain ⟨ab, hab⟩ : ∃ ab, resB ⟨why, wait, reply, A, c, data⟩ = ab := ⟨_, rfl⟩
  have hab' : ivar why ++ uvar (bnat wait) ++ replyB reply ++ uvar data.length ++ data = ab := by rw [← hab]; simp [resB, txt]
  have hlen : ab.length ≤ 17592186044416 := by
    unfold shortS at h3
    have := uvar_len64 (n := data.length) (by omega)
    rw [← hab']; simp only [List.length_append]; omega
  unfold i64r at h1
  unfold shortS at h3
  unfold resOut resWhy
  rw [hab]
  dsimp only
  refine do_seq ?_
  refine do_region ?_
  refine run_box_row rfl (by decide) rfl (fun b1 => ?_)
  refine run_read rfl (by decide) (fun _ => nofun) (rd_assign rfl) ?_
  refine run_read rfl (by decide) (fun _ => nofun) (rd_assign rfl) ?_
  refine run_nil ?_
  refine St.then_n ?_
  refine do_seq ?_
  refine do_seq ?_
  refine do_cut (fun b : Bool => b = decide (65536 < data.length ∨ 600 < reply.rows.length)) (fun b => [(1, .pointer (some ⟨b1, 0, none⟩)), (15, .bool b)]) (fun _ => [pts b1 53 [.int .i64 why, .bool wait, .int .i64 reply.why, .int .i64 reply.amount, reply.v, .slice A data.length c], F]) (fun K hK => ?_) ?_
  · by_cases hA : 65536 < data.length
    · refine do_region ?_
      first | refine run_read rfl (by decide) (fun _ => nofun) (rd_fieldAddr0 rfl fld53_3) ?_ | refine run_read rfl (by decide) (fun _ => nofun) (rd_fieldAddr rfl fld53_3) ?_
      refine run_read rfl (by decide) (fun _ => nofun) (rd_load rfl row26 (cells_pts1 (by repeat (first | with_reducible exact Sel.head | apply Sel.tail)) rfl)) ?_
      refine run_read rfl (by decide) (fun _ => nofun) (rd_len Try.underlying26 rfl) ?_
      first | refine run_read rfl (by decide) (fun _ => nofun) ((rd_gt rfl rfl).eq (show _ = Value.bool true by simp; omega)) ?_ | refine run_read rfl (by decide) (fun _ => nofun) ((rd_gt rfl rfl).eq (show _ = Value.bool false by simp; omega)) ?_
      refine run_read rfl (by decide) (fun _ => nofun) (rd_move rfl) ?_
      first | (refine run_skip rfl rfl ?_) | (first | refine run_read rfl (by decide) (fun _ => nofun) (rd_fieldAddr0 rfl fld53_2) ?_ | refine run_read rfl (by decide) (fun _ => nofun) (rd_fieldAddr rfl fld53_2) ?_)
      first | (refine run_skip rfl rfl ?_) | (first | refine run_read rfl (by decide) (fun _ => nofun) (rd_fieldAddr0 rfl fld33_2) ?_ | refine run_read rfl (by decide) (fun _ => nofun) (rd_fieldAddr rfl fld33_2) ?_)
      first | (refine run_skip rfl rfl ?_) | (refine run_read rfl (by decide) (fun _ => nofun) (rd_load rfl row31 (cells_pts1 (by repeat (first | with_reducible exact Sel.head | apply Sel.tail)) rfl)) ?_)
      first | (refine run_skip rfl rfl ?_) | (refine run_read rfl (by decide) (fun _ => nofun) (rd_len Try.underlying31 rfl) ?_)
      first | (refine run_skip rfl rfl ?_) | (refine run_read rfl (by decide) (fun _ => nofun) (rd_gt rfl rfl) ?_)
      first | refine run_read rfl (by decide) (fun _ => nofun) (rd_pick_t rfl rfl) ?_ | refine run_read rfl (by decide) (fun _ => nofun) (rd_pick_f rfl rfl) ?_
      refine run_nil ?_
      refine St.keep (β' := [(1, _), (15, _)]) ⟨rfl, rfl, trivial⟩ ?_
      refine St.then_n ?_
      exact St.keep (β' := [(1, _), (15, _)]) ⟨rfl, rfl, trivial⟩ (hK _ (by first | exact (decide_eq_true (Or.inl hA)).symm | exact decide_eq_decide.2 (by omega)))
    · refine do_region ?_
      first | refine run_read rfl (by decide) (fun _ => nofun) (rd_fieldAddr0 rfl fld53_3) ?_ | refine run_read rfl (by decide) (fun _ => nofun) (rd_fieldAddr rfl fld53_3) ?_
      refine run_read rfl (by decide) (fun _ => nofun) (rd_load rfl row26 (cells_pts1 (by repeat (first | with_reducible exact Sel.head | apply Sel.tail)) rfl)) ?_
      refine run_read rfl (by decide) (fun _ => nofun) (rd_len Try.underlying26 rfl) ?_
      first | refine run_read rfl (by decide) (fun _ => nofun) ((rd_gt rfl rfl).eq (show _ = Value.bool true by simp; omega)) ?_ | refine run_read rfl (by decide) (fun _ => nofun) ((rd_gt rfl rfl).eq (show _ = Value.bool false by simp; omega)) ?_
      refine run_read rfl (by decide) (fun _ => nofun) (rd_move rfl) ?_
      first | (refine run_skip rfl rfl ?_) | (first | refine run_read rfl (by decide) (fun _ => nofun) (rd_fieldAddr0 rfl fld53_2) ?_ | refine run_read rfl (by decide) (fun _ => nofun) (rd_fieldAddr rfl fld53_2) ?_)
      first | (refine run_skip rfl rfl ?_) | (first | refine run_read rfl (by decide) (fun _ => nofun) (rd_fieldAddr0 rfl fld33_2) ?_ | refine run_read rfl (by decide) (fun _ => nofun) (rd_fieldAddr rfl fld33_2) ?_)
      first | (refine run_skip rfl rfl ?_) | (refine run_read rfl (by decide) (fun _ => nofun) (rd_load rfl row31 (cells_pts1 (by repeat (first | with_reducible exact Sel.head | apply Sel.tail)) rfl)) ?_)
      first | (refine run_skip rfl rfl ?_) | (refine run_read rfl (by decide) (fun _ => nofun) (rd_len Try.underlying31 rfl) ?_)
      first | (refine run_skip rfl rfl ?_) | (refine run_read rfl (by decide) (fun _ => nofun) (rd_gt rfl rfl) ?_)
      first | refine run_read rfl (by decide) (fun _ => nofun) (rd_pick_t rfl rfl) ?_ | refine run_read rfl (by decide) (fun _ => nofun) (rd_pick_f rfl rfl) ?_
      refine run_nil ?_
      refine St.keep (β' := [(1, _), (15, _)]) ⟨rfl, rfl, trivial⟩ ?_
      refine St.then_n ?_
      exact St.keep (β' := [(1, _), (15, _)]) ⟨rfl, rfl, trivial⟩ (hK _ (by first | exact (decide_eq_true (Or.inl hA)).symm | exact decide_eq_decide.2 (by omega)))
  rintro b hb
  first | refine do_condp rfl (fun h15 => ?_) (fun h15 => ?_) | refine do_cond rfl (fun h15 => ?_) (fun h15 => ?_)
  · rw [if_pos (of_decide_eq_true (hb.symm.trans h15)), if_pos (of_decide_eq_true (hb.symm.trans h15))]
    refine do_seq ?_
    refine do_region ?_
    refine run_read rfl (by decide) (fun _ => nofun) (rd_assign rfl) ?_
    refine run_read rfl (by decide) (fun _ => nofun) (rd_assign rfl) ?_
    refine run_nil ?_
    refine St.then_n ?_
    refine do_ret ?_
    refine St.then_r ?_
    refine do_ret2 Try.results40 (res_tmp rfl) (res_tmp rfl) ?_
    intro w hw
    exact ⟨_, trivial, rfl, Holds.own_nil (hw.sub (by repeat (first | exact Pick.nil | apply Pick.cons (by repeat (first | with_reducible exact Sel.head | apply Sel.tail)))))⟩
  · rw [if_neg (of_decide_eq_false (hb.symm.trans h15)), if_neg (of_decide_eq_false (hb.symm.trans h15))]
    refine do_skip ?_
    refine St.then_n ?_
    refine do_seq ?_
    refine do_draw [[1, 2, 5, 8, 9], [2, 5, 8, 9], [5, 8, 9], [4, 5, 8, 9], [5, 8, 9], [8, 9], [7, 8, 9], [8, 9], [9], []] (by kernel_rfl) rfl ?_
    first | refine any_take (i := 0) (by kernel_rfl) rfl rfl (by decide) (fun _ _ _ _ _ h => h) rfl (rd_fieldAddr0 rfl fld53_0) ?_ | refine any_take (i := 0) (by kernel_rfl) rfl rfl (by decide) (fun _ _ _ _ _ h => h) rfl (rd_fieldAddr rfl fld53_0) ?_
    refine any_take (i := 1) (by kernel_rfl) rfl rfl (by decide) (fun _ _ _ _ _ h => h) rfl (rd_load rfl row25 (cells_pts1 (by repeat (first | with_reducible exact Sel.head | apply Sel.tail)) rfl)) ?_
    first | refine any_take (i := 3) (by kernel_rfl) rfl rfl (by decide) (fun _ _ _ _ _ h => h) rfl (rd_fieldAddr0 rfl fld53_1) ?_ | refine any_take (i := 3) (by kernel_rfl) rfl rfl (by decide) (fun _ _ _ _ _ h => h) rfl (rd_fieldAddr rfl fld53_1) ?_
    refine any_take (i := 4) (by kernel_rfl) rfl rfl (by decide) (fun _ _ _ _ _ h => h) rfl (rd_load rfl row4 (cells_pts1 (by repeat (first | with_reducible exact Sel.head | apply Sel.tail)) rfl)) ?_
    first | refine any_take (i := 6) (by kernel_rfl) rfl rfl (by decide) (fun _ _ _ _ _ h => h) rfl (rd_fieldAddr0 rfl fld53_2) ?_ | refine any_take (i := 6) (by kernel_rfl) rfl rfl (by decide) (fun _ _ _ _ _ h => h) rfl (rd_fieldAddr rfl fld53_2) ?_
    refine any_take (i := 7) (by kernel_rfl) rfl rfl (by decide) (fun _ _ _ _ _ h => h) rfl (rd_load_row (vs := [_, _, _]) rfl row33 rfl (cells_pts (by repeat (first | with_reducible exact Sel.head | apply Sel.tail)) rfl)) ?_
    refine any_run (j := 2) (by kernel_rfl) rfl ?_
    refine run_spec rfl (by decide) (by kernel_rfl) rfl (by repeat (first | exact Pick.nil | apply Pick.cons (by repeat (first | with_reducible exact Sel.head | apply Sel.tail)))) (int_spec _ _ _ _ (by first | with_reducible exact vwb_nil _ | exact Vw.sep hF (by repeat (first | with_reducible exact Sel.head | apply Sel.tail)) | exact Vw.sep hG (by repeat (first | with_reducible exact Sel.head | apply Sel.tail)) | exact Vw.sep vw_bytes (by repeat (first | with_reducible exact Sel.head | apply Sel.tail))) h1 (by first | omega | (simp only [List.length_append, List.length_nil, List.length_cons]; omega))) ?_
    rintro v1 -
    try simp only [List.cons_append, List.nil_append]
    refine run_nil ?_
    refine St.then_n ?_
    refine any_next (by (apply Beh.keep (i := 7) (by kernel_rfl) rfl (rd_load_row (vs := [_, _, _]) rfl row33 rfl (cells_pts (by repeat (first | with_reducible exact Sel.head | apply Sel.tail)) rfl))); (first | apply Beh.keep (i := 6) (by kernel_rfl) rfl (rd_fieldAddr0 rfl fld53_2) | apply Beh.keep (i := 6) (by kernel_rfl) rfl (rd_fieldAddr rfl fld53_2)); (apply Beh.keep (i := 4) (by kernel_rfl) rfl (rd_load rfl row4 (cells_pts1 (by repeat (first | with_reducible exact Sel.head | apply Sel.tail)) rfl))); (first | apply Beh.keep (i := 3) (by kernel_rfl) rfl (rd_fieldAddr0 rfl fld53_1) | apply Beh.keep (i := 3) (by kernel_rfl) rfl (rd_fieldAddr rfl fld53_1)); apply Beh.drop (i := 1) (by kernel_rfl); apply Beh.drop (i := 0) (by kernel_rfl); exact .nil) ?_
    refine any_run (j := 5) (by kernel_rfl) rfl ?_
    refine run_spec rfl (by decide) (by kernel_rfl) rfl (by repeat (first | exact Pick.nil | apply Pick.cons (by repeat (first | with_reducible exact Sel.head | apply Sel.tail)))) (bool_spec _ _ _ wait (by first | with_reducible exact vwb_nil _ | exact Vw.sep hF (by repeat (first | with_reducible exact Sel.head | apply Sel.tail)) | exact Vw.sep hG (by repeat (first | with_reducible exact Sel.head | apply Sel.tail)) | exact Vw.sep vw_bytes (by repeat (first | with_reducible exact Sel.head | apply Sel.tail))) (by omega)) ?_
    rintro v2 -
    try simp only [List.cons_append, List.nil_append]
    refine run_nil ?_
    refine St.then_n ?_
    refine any_next (by (apply Beh.keep (i := 7) (by kernel_rfl) rfl (rd_load_row (vs := [_, _, _]) rfl row33 rfl (cells_pts (by repeat (first | with_reducible exact Sel.head | apply Sel.tail)) rfl))); (first | apply Beh.keep (i := 6) (by kernel_rfl) rfl (rd_fieldAddr0 rfl fld53_2) | apply Beh.keep (i := 6) (by kernel_rfl) rfl (rd_fieldAddr rfl fld53_2)); apply Beh.drop (i := 4) (by kernel_rfl); apply Beh.drop (i := 3) (by kernel_rfl); exact .nil) ?_
    refine any_run (j := 8) (by kernel_rfl) rfl ?_
    refine run_spec rfl (by decide) (by kernel_rfl) rfl (by repeat (first | exact Pick.nil | apply Pick.cons (by repeat (first | with_reducible exact Sel.head | apply Sel.tail)))) (putReply_spec _ _ _ reply (by first | with_reducible exact vwb_nil _ | exact Vw.sep hF (by repeat (first | with_reducible exact Sel.head | apply Sel.tail)) | exact Vw.sep hG (by repeat (first | with_reducible exact Sel.head | apply Sel.tail)) | exact Vw.sep vw_bytes (by repeat (first | with_reducible exact Sel.head | apply Sel.tail))) (Vw.sep hR (by repeat (first | with_reducible exact Sel.head | apply Sel.tail))) h2 (by first | omega | (simp only [List.length_append, List.length_nil, List.length_cons]; omega))) ?_
    rintro v3 -
    try simp only [List.cons_append, List.nil_append]
    refine run_nil ?_
    refine St.then_n ?_
    refine any_next (by apply Beh.drop (i := 7) (by kernel_rfl); apply Beh.drop (i := 6) (by kernel_rfl); exact .nil) ?_
    refine any_take (i := 9) (by kernel_rfl) rfl rfl (by decide) (fun _ _ _ _ _ h => h) rfl (rd_assign rfl) ?_
    refine any_nil (by kernel_rfl) ?_
    refine St.keep (β' := [(1, _), (4, _)]) ⟨rfl, rfl, trivial⟩ ?_
    refine St.then_n ?_
    refine do_seq ?_
    refine do_seq ?_
    refine do_region ?_
    refine run_read rfl (by decide) (fun _ => nofun) (rd_move rfl) ?_
    first | refine run_read rfl (by decide) (fun _ => nofun) (rd_fieldAddr0 rfl fld53_3) ?_ | refine run_read rfl (by decide) (fun _ => nofun) (rd_fieldAddr rfl fld53_3) ?_
    refine run_read rfl (by decide) (fun _ => nofun) (rd_load rfl row26 (cells_pts1 (by repeat (first | with_reducible exact Sel.head | apply Sel.tail)) rfl)) ?_
    refine run_spec rfl (by decide) (by kernel_rfl) rfl (by repeat (first | exact Pick.nil | apply Pick.cons (by repeat (first | with_reducible exact Sel.head | apply Sel.tail)))) (byt_spec _ _ _ _ data (by first | with_reducible exact vwb_nil _ | exact Vw.sep hF (by repeat (first | with_reducible exact Sel.head | apply Sel.tail)) | exact Vw.sep hG (by repeat (first | with_reducible exact Sel.head | apply Sel.tail)) | exact Vw.sep vw_bytes (by repeat (first | with_reducible exact Sel.head | apply Sel.tail))) (Vw.sep hF (by repeat (first | with_reducible exact Sel.head | apply Sel.tail))) h3 (by first | omega | (simp only [List.length_append, List.length_nil, List.length_cons]; omega))) ?_
    rintro v4 -
    rw [hab']
    refine St.vw vw_bytes .head (fun A2 c2 hv2 _ _ _ => ?_)
    subst hv2
    try simp only [List.cons_append, List.nil_append]
    refine run_read rfl (by decide) (fun _ => nofun) (rd_assign rfl) ?_
    refine run_nil ?_
    refine St.keep (β' := [(4, _)]) ⟨rfl, trivial⟩ ?_
    refine St.then_n ?_
    refine do_seq ?_
    refine do_region ?_
    refine run_read rfl (by decide) (fun _ => nofun) (rd_move rfl) ?_
    refine run_read rfl (by decide) (fun _ => nofun) (rd_len Try.underlying26 rfl) ?_
    refine run_read rfl (by decide) (fun _ => nofun) (rd_gt rfl rfl) ?_
    refine run_nil ?_
    refine St.then_n ?_
    first | refine do_condp rfl (fun h31 => ?_) (fun h31 => ?_) | refine do_cond rfl (fun h31 => ?_) (fun h31 => ?_)
    · refine do_seq ?_
      refine do_region ?_
      refine run_read rfl (by decide) (fun _ => nofun) (rd_assign rfl) ?_
      refine run_read rfl (by decide) (fun _ => nofun) (rd_assign rfl) ?_
      refine run_nil ?_
      refine St.keep (β' := [(2, _), (3, _)]) ⟨rfl, rfl, trivial⟩ ?_
      refine St.then_n ?_
      refine do_ret ?_
      refine St.then_r ?_
      refine do_ret2 Try.results40 (res_tmp rfl) (res_tmp rfl) ?_
      intro w hw
      obtain ⟨e1, e2⟩ := long_yes (k := 1048576) (b := ab) (by omega)
      rw [e1, e2]
      exact ⟨_, trivial, rfl, Holds.own_nil (hw.sub (by repeat (first | exact Pick.nil | apply Pick.cons (by repeat (first | with_reducible exact Sel.head | apply Sel.tail)))))⟩
    · refine do_skip ?_
      refine St.then_n ?_
      refine do_seq ?_
      refine do_region ?_
      refine run_read rfl (by decide) (fun _ => nofun) (rd_move rfl) ?_
      refine run_read rfl (by decide) (fun _ => nofun) (rd_assign rfl) ?_
      refine run_read rfl (by decide) (fun _ => nofun) (rd_assign rfl) ?_
      refine run_nil ?_
      refine St.keep (β' := [(2, _), (3, _)]) ⟨rfl, rfl, trivial⟩ ?_
      refine St.then_n ?_
      refine do_ret ?_
      refine do_ret2 Try.results40 (res_tmp rfl) (res_tmp rfl) ?_
      intro w hw
      obtain ⟨e1, e2⟩ := long_no (k := 1048576) (b := ab) (by omega)
      rw [e1, e2]
      exact ⟨_, trivial, rfl, hw.sub (by repeat (first | exact Pick.nil | apply Pick.cons (by repeat (first | with_reducible exact Sel.head | apply Sel.tail))))⟩
/-- Without where its data lie. -/
def GCmd.plain (x : GCmd) : GCmd := { x with A := none, c := 0 }
def noCmd : GCmd := ⟨0, ⟨0, [], [], 0, [], 0, 0⟩, [], [], 0, 0, 0, 0, 0, false, none, 0, []⟩
def GAsk.plain (x : GAsk) : GAsk := ⟨x.group, x.cmd.plain⟩
def noAsk : GAsk := ⟨0, noCmd⟩
def GRes.plain (x : GRes) : GRes := ⟨x.why, x.wait, ⟨x.reply.why, x.reply.amount, none, 0, x.reply.rows⟩, none, 0, x.data⟩
theorem shr1 (n : Nat) : Value.int .u64 ((n : Int).fdiv (2 ^ (min (1 : Int).toNat IntKind.u64.bits))) = .int .u64 ((n / 2 : Nat) : Int) := by
  congr 1
  simp [IntKind.bits]
  rw [Int.fdiv_eq_ediv_of_nonneg _ (by omega)]
end Go.Proofs.Ytglcmlicfmmlpaa
