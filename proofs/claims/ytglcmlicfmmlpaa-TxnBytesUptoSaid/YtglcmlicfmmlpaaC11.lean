/-
  Reading bytes: the program's results.
-/
import Derived.Test.YtglcmlicfmmlpaaC10
namespace Go.Proofs.Ytglcmlicfmmlpaa
open Go.RowKit
set_option linter.unusedSimpArgs false
set_option linter.unusedVariables false

theorem rReply_ok {B : List UInt8} {s : RS} (hs : s.at_ ≤ B.length) : (rReply B s).2.at_ ≤ B.length := rRows_ok _ _ (rN_ok (rI_ok (rI_ok hs))).1
def GRes.plain (x : GRes) : GRes := ⟨x.why, x.wait, ⟨x.reply.why, x.reply.amount, none, 0, x.reply.rows⟩, none, 0, x.data⟩
def noRes : GRes := ⟨0, false, ⟨0, 0, none, 0, []⟩, none, 0, []⟩
def pRes (B : List UInt8) : GRes × RS :=
  let a := rI B ⟨0, 0⟩
  let t := rT B a.2
  let p := rReply B t.2
  let d := rB B p.2
  (⟨a.1, t.1, ⟨p.1.1, p.1.2.1, none, 0, p.1.2.2⟩, none, 0, d.1⟩, d.2)
def parseR (B : List UInt8) : GRes × Int :=
  if 1048576 < B.length then (noRes, 3) else if rE B (pRes B).2 ≠ 0 then (noRes, rE B (pRes B).2) else ((pRes B).1, 0)
abbrev rowsO (x : GReply) : HP := own x.v 108 2 x.rows.length (x.rows.flatMap rowC)
set_option maxRecDepth 4000 in
set_option maxHeartbeats 1000000 in
theorem getResult_spec (F : HP) (v : Value) (B : List UInt8) (hF : VwB F v B) (hl : B.length ≤ 140737488355328) :
    Spec Try.prog 45 [v] [] F (fun x : GRes => x.plain = (parseR B).1) (fun x => .tuple #[.agg x.L.toArray, .int .i64 (parseR B).2]) (fun x => [bytesO x.v x.data, rowsO x.reply]) := by
  intro ω w hh
  refine enter Try.func45 rfl Try.ntmps45 rfl hh ?_
  simp only [List.nil_append, argsB]
  refine St.vw hF .head (fun A c hv _ _ _ => ?_)
  subst hv
  obtain ⟨⟨a, s1⟩, e1⟩ : ∃ q, rI B ⟨0, 0⟩ = q := ⟨_, rfl⟩
  have k1 : s1.at_ ≤ B.length := by have := rI_ok (B := B) (s := ⟨0, 0⟩) (Nat.zero_le _); rw [e1] at this; exact this
  obtain ⟨⟨t, s2⟩, e2⟩ : ∃ q, rT B s1 = q := ⟨_, rfl⟩
  have k2 : s2.at_ ≤ B.length := by have := rT_ok k1; rw [e2] at this; exact this
  obtain ⟨⟨⟨pw, pa, rows⟩, s3⟩, e3⟩ : ∃ q, rReply B s2 = q := ⟨_, rfl⟩
  have k3 : s3.at_ ≤ B.length := by have := rReply_ok k2; rw [e3] at this; exact this
  obtain ⟨⟨d, s4⟩, e4⟩ : ∃ q, rB B s3 = q := ⟨_, rfl⟩
  have k4 : s4.at_ ≤ B.length := by have := rB_ok k3; rw [e4] at this; exact this
  have hop : pRes B = (⟨a, t, ⟨pw, pa, none, 0, rows⟩, none, 0, d⟩, s4) := by simp only [pRes, e1, e2, e3, e4]
  unfold parseR
  rw [hop]
  dsimp only
  refine do_seq ?_
  refine do_region ?_
  refine run_alloc rfl (by decide) zero53 (fun b2 => ?_)
  refine run_read rfl (by decide) (fun _ => nofun) (rd_assign rfl) ?_
  refine run_nil ?_
  refine St.then_n ?_
  refine do_seq ?_
  refine do_seq ?_
  refine do_region ?_
  refine run_read rfl (by decide) (fun _ => nofun) (rd_move rfl) ?_
  refine run_read rfl (by decide) (fun _ => nofun) (rd_len Try.underlying26 rfl) ?_
  refine run_read rfl (by decide) (fun _ => nofun) (rd_gt rfl rfl) ?_
  refine run_nil ?_
  refine St.then_n ?_
  first | refine do_condp rfl (fun h9 => ?_) (fun h9 => ?_) | refine do_cond rfl (fun h9 => ?_) (fun h9 => ?_)
  · refine do_seq ?_
    refine do_region ?_
    refine run_read rfl (by decide) (fun _ => nofun) (rd_buildM (l := []) (vs := [_, _, _, _, _, _]) zero53 plc53 rfl rfl) ?_
    first | refine run_store_all rfl rfl rfl (by repeat (first | with_reducible exact Sel.head | apply Sel.tail)) row53 rfl rfl rfl ?_ | refine run_store_mid rfl rfl rfl (by repeat (first | with_reducible exact Sel.head | apply Sel.tail)) row53 rfl rfl rfl (by simp only [setL, List.length_cons, List.length_nil, Nat.reduceAdd, List.take_succ_cons, List.take_zero, List.drop_succ_cons, List.drop_zero, List.cons_append, List.nil_append, List.append_nil]; exact rfl) ?_
    refine run_read rfl (by decide) (fun _ => nofun) (rd_assign rfl) ?_
    refine run_nil ?_
    refine St.keep (β' := [(2, _), (3, _)]) ⟨rfl, rfl, trivial⟩ ?_
    refine St.then_n ?_
    refine do_ret ?_
    refine St.then_r ?_
    refine do_ret2 Try.results45 (res_cell_row (vs := [_, _, _, _, _, _]) rfl row53 rfl (cells_pts (by repeat (first | with_reducible exact Sel.head | apply Sel.tail)) rfl)) (res_tmp rfl) ?_
    intro w hw
    have hlong : 1048576 < B.length := by omega
    rw [if_pos hlong]
    exact ⟨noRes, rfl, rfl, Holds.own_nil (Holds.own_nil (hw.sub (by repeat (first | exact Pick.nil | apply Pick.cons (by repeat (first | with_reducible exact Sel.head | apply Sel.tail))))))⟩
  · refine do_skip ?_
    refine St.then_n ?_
    refine do_seq ?_
    refine do_region ?_
    refine run_read rfl (by decide) (fun _ => nofun) (rd_move rfl) ?_
    refine run_spec rfl (by decide) (by kernel_rfl) rfl (by repeat (first | exact Pick.nil | apply Pick.cons (by repeat (first | with_reducible exact Sel.head | apply Sel.tail)))) (newReader_spec _ _ (by first | with_reducible exact vwb_nil _ | exact Vw.sep hF (by repeat (first | with_reducible exact Sel.head | apply Sel.tail)) | exact Vw.sep hG (by repeat (first | with_reducible exact Sel.head | apply Sel.tail)) | exact Vw.sep vw_bytes (by repeat (first | with_reducible exact Sel.head | apply Sel.tail))) hl) ?_
    rintro r -
    try simp only [List.cons_append, List.nil_append]
    refine run_read rfl (by decide) (fun _ => nofun) (rd_assign rfl) ?_
    refine run_nil ?_
    refine St.keep (β' := [(2, _), (4, _)]) ⟨rfl, rfl, trivial⟩ ?_
    refine St.then_n ?_
    refine do_seq ?_
    refine do_region ?_
    refine run_read rfl (by decide) (fun _ => nofun) (rd_move rfl) ?_
    refine run_spec rfl (by decide) (by kernel_rfl) rfl (by repeat (first | exact Pick.nil | apply Pick.cons (by repeat (first | with_reducible exact Sel.head | apply Sel.tail)))) (rdInt_spec _ (s := ⟨0, 0⟩) (Nat.zero_le _) hl) ?_
    rintro ⟨⟩ -
    rw [e1]
    dsimp only
    try simp only [List.cons_append, List.nil_append]
    refine run_read rfl (by decide) (fun _ => nofun) (rd_move rfl) ?_
    refine run_spec rfl (by decide) (by kernel_rfl) rfl (by repeat (first | exact Pick.nil | apply Pick.cons (by repeat (first | with_reducible exact Sel.head | apply Sel.tail)))) (rdBool_spec _ k1 hl) ?_
    rintro ⟨⟩ -
    rw [e2]
    dsimp only
    try simp only [List.cons_append, List.nil_append]
    refine run_read rfl (by decide) (fun _ => nofun) (rd_buildM (l := [(0, (Operand.tmp 14)), (1, (Operand.tmp 16))]) (vs := [_, _, _, _, _, _]) zero53 plc53 rfl rfl) ?_
    refine run_alloc rfl (by decide) zero53 (fun b5 => ?_)
    first | refine run_store_all rfl rfl rfl (by repeat (first | with_reducible exact Sel.head | apply Sel.tail)) row53 rfl rfl rfl ?_ | refine run_store_mid rfl rfl rfl (by repeat (first | with_reducible exact Sel.head | apply Sel.tail)) row53 rfl rfl rfl (by simp only [setL, List.length_cons, List.length_nil, Nat.reduceAdd, List.take_succ_cons, List.take_zero, List.drop_succ_cons, List.drop_zero, List.cons_append, List.nil_append, List.append_nil]; exact rfl) ?_
    refine run_nil ?_
    refine St.keep (β' := [(2, _), (4, _), (5, _)]) ⟨rfl, rfl, rfl, trivial⟩ ?_
    refine St.then_n ?_
    refine do_seq ?_
    refine do_region ?_
    refine run_read rfl (by decide) (fun _ => nofun) (rd_move rfl) ?_
    refine run_spec rfl (by decide) (by kernel_rfl) rfl (by repeat (first | exact Pick.nil | apply Pick.cons (by repeat (first | with_reducible exact Sel.head | apply Sel.tail)))) (getReply_spec _ k2 hl) ?_
    rintro ⟨A2, c2⟩ -
    rw [e3]
    dsimp only
    try simp only [List.cons_append, List.nil_append]
    refine run_read rfl (by decide) (fun _ => nofun) (rd_move rfl) ?_
    refine run_spec rfl (by decide) (by kernel_rfl) rfl (by repeat (first | exact Pick.nil | apply Pick.cons (by repeat (first | with_reducible exact Sel.head | apply Sel.tail)))) (rdBytes_spec _ k3 hl) ?_
    rintro v1 -
    rw [e4]
    dsimp only
    refine St.vw vw_bytes .head (fun A1 c1 hv _ _ _ => ?_)
    subst hv
    try simp only [List.cons_append, List.nil_append]
    first | refine run_read rfl (by decide) (fun _ => nofun) (rd_fieldAddr0 rfl fld53_2) ?_ | refine run_read rfl (by decide) (fun _ => nofun) (rd_fieldAddr rfl fld53_2) ?_
    first | refine run_store_all rfl rfl rfl (by repeat (first | with_reducible exact Sel.head | apply Sel.tail)) row33 rfl rfl rfl ?_ | refine run_store_mid rfl rfl rfl (by repeat (first | with_reducible exact Sel.head | apply Sel.tail)) row33 rfl rfl rfl (by simp only [setL, List.length_cons, List.length_nil, Nat.reduceAdd, List.take_succ_cons, List.take_zero, List.drop_succ_cons, List.drop_zero, List.cons_append, List.nil_append, List.append_nil]; exact rfl) ?_
    first | refine run_read rfl (by decide) (fun _ => nofun) (rd_fieldAddr0 rfl fld53_3) ?_ | refine run_read rfl (by decide) (fun _ => nofun) (rd_fieldAddr rfl fld53_3) ?_
    refine run_store rfl rfl rfl (by repeat (first | with_reducible exact Sel.head | apply Sel.tail)) row26 rfl rfl (by simp only [List.set_cons_succ, List.set_cons_zero]; exact rfl) ?_
    refine run_nil ?_
    refine St.keep (β' := [(2, _), (4, _), (5, _)]) ⟨rfl, rfl, rfl, trivial⟩ ?_
    refine St.then_n ?_
    refine do_seq ?_
    refine do_seq ?_
    refine do_region ?_
    refine run_read rfl (by decide) (fun _ => nofun) (rd_move rfl) ?_
    refine run_spec rfl (by decide) (by kernel_rfl) rfl (by repeat (first | exact Pick.nil | apply Pick.cons (by repeat (first | with_reducible exact Sel.head | apply Sel.tail)))) (rdEnd_spec _ k4 hl) ?_
    rintro ⟨⟩ -
    try simp only [List.cons_append, List.nil_append]
    refine run_read rfl (by decide) (fun _ => nofun) (rd_assign rfl) ?_
    refine run_nil ?_
    refine St.then_n ?_
    refine do_seq ?_
    refine do_region ?_
    refine run_read rfl (by decide) (fun _ => nofun) (rd_move rfl) ?_
    refine run_read rfl (by decide) (fun _ => nofun) (rd_ne rfl rfl) ?_
    refine run_nil ?_
    refine St.keep (β' := [(2, _), (5, _), (6, _), (27, _)]) ⟨rfl, rfl, rfl, rfl, trivial⟩ ?_
    refine St.then_n ?_
    first | refine do_condp rfl (fun h27 => ?_) (fun h27 => ?_) | refine do_cond rfl (fun h27 => ?_) (fun h27 => ?_)
    · refine do_seq ?_
      refine do_region ?_
      refine run_read rfl (by decide) (fun _ => nofun) (rd_buildM (l := []) (vs := [_, _, _, _, _, _]) zero53 plc53 rfl rfl) ?_
      refine run_read rfl (by decide) (fun _ => nofun) (rd_move rfl) ?_
      first | refine run_store_all rfl rfl rfl (by repeat (first | with_reducible exact Sel.head | apply Sel.tail)) row53 rfl rfl rfl ?_ | refine run_store_mid rfl rfl rfl (by repeat (first | with_reducible exact Sel.head | apply Sel.tail)) row53 rfl rfl rfl (by simp only [setL, List.length_cons, List.length_nil, Nat.reduceAdd, List.take_succ_cons, List.take_zero, List.drop_succ_cons, List.drop_zero, List.cons_append, List.nil_append, List.append_nil]; exact rfl) ?_
      refine run_read rfl (by decide) (fun _ => nofun) (rd_assign rfl) ?_
      refine run_nil ?_
      refine St.keep (β' := [(2, _), (3, _)]) ⟨rfl, rfl, trivial⟩ ?_
      refine St.then_n ?_
      refine do_ret ?_
      refine St.then_r ?_
      refine do_ret2 Try.results45 (res_cell_row (vs := [_, _, _, _, _, _]) rfl row53 rfl (cells_pts (by repeat (first | with_reducible exact Sel.head | apply Sel.tail)) rfl)) (res_tmp rfl) ?_
      intro w hw
      have hlong : ¬ 1048576 < B.length := by omega
      rw [if_neg hlong, if_pos h27]
      exact ⟨noRes, rfl, rfl, Holds.own_nil (Holds.own_nil (hw.sub (by repeat (first | exact Pick.nil | apply Pick.cons (by repeat (first | with_reducible exact Sel.head | apply Sel.tail))))))⟩
    · refine do_skip ?_
      refine St.then_n ?_
      refine do_seq ?_
      refine do_region ?_
      refine run_read rfl (by decide) (fun _ => nofun) (rd_load_row (vs := [_, _, _, _, _, _]) rfl row53 rfl (cells_pts (by repeat (first | with_reducible exact Sel.head | apply Sel.tail)) rfl)) ?_
      first | refine run_store_all rfl rfl rfl (by repeat (first | with_reducible exact Sel.head | apply Sel.tail)) row53 rfl rfl rfl ?_ | refine run_store_mid rfl rfl rfl (by repeat (first | with_reducible exact Sel.head | apply Sel.tail)) row53 rfl rfl rfl (by simp only [setL, List.length_cons, List.length_nil, Nat.reduceAdd, List.take_succ_cons, List.take_zero, List.drop_succ_cons, List.drop_zero, List.cons_append, List.nil_append, List.append_nil]; exact rfl) ?_
      refine run_read rfl (by decide) (fun _ => nofun) (rd_assign rfl) ?_
      refine run_nil ?_
      refine St.keep (β' := [(2, _), (3, _)]) ⟨rfl, rfl, trivial⟩ ?_
      refine St.then_n ?_
      refine do_ret ?_
      refine do_ret2 Try.results45 (res_cell_row (vs := [_, _, _, _, _, _]) rfl row53 rfl (cells_pts (by repeat (first | with_reducible exact Sel.head | apply Sel.tail)) rfl)) (res_tmp rfl) ?_
      intro w hw
      have hlong : ¬ 1048576 < B.length := by omega
      rw [if_neg hlong, if_neg h27]
      exact ⟨⟨a, t, ⟨pw, pa, A2, c2, rows⟩, A1, c1, d⟩, rfl, rfl, hw.sub (by repeat (first | exact Pick.nil | apply Pick.cons (by repeat (first | with_reducible exact Sel.head | apply Sel.tail))))⟩
end Go.Proofs.Ytglcmlicfmmlpaa
