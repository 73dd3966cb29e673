/-
  The reference's commands, replies, asks, results as bytes.
-/
import Derived.Test.YtglcmlicfmmlpaaC13
namespace Go.Proofs.Ytglcmlicfmmlpaa
open Go.RowKit
set_option linter.unusedSimpArgs false
set_option linter.unusedVariables false

set_option maxRecDepth 4000 in
theorem ref13Bytes_spec (F : HP) (x : GCmd) (hF : VwB F x.v x.data) (hx : x.ok) :
    Spec Try.prog 75 [.agg x.L.toArray] [] F (fun _ : Value => True) (fun v' => v') (fun v' => [bytesO v' (cmdB x)]) := by
  intro ω w hh
  refine enter Try.func75 rfl Try.ntmps75 rfl hh ?_
  simp only [List.nil_append, argsB]
  obtain ⟨kind, op, id, name, n, why, slot, epoch, at_, last, Ad, cd, data⟩ := x
  obtain ⟨h1, h2, h3, h4, h5, h6, h7, h8, h9, h10⟩ := hx
  dsimp only at h1 h2 h3 h4 h5 h6 h7 h8 h9 h10 hF ⊢
  have l1 := ivar_len h1
  have l2 := opB_len h2
  have l3 := txt_len h3
  have l4 := txt_len h4
  have l5 := ivar_len h5
  have l6 := ivar_len h6
  have l7 := ivar_len h7
  have l8 := ivar_len h8
  have l9 := ivar_len h9
  have l3' := uvar_len64 (n := id.length) (by unfold shortS at h3; omega)
  have l4' := uvar_len64 (n := name.length) (by unfold shortS at h4; omega)
  have l10 := uvar_len64 (n := bnat last) (by unfold bnat; split <;> decide)
  unfold i64r shortS at *
  refine do_seq ?_
  refine do_region ?_
  refine run_box_row rfl (by decide) rfl (fun b1 => ?_)
  refine run_read rfl (by decide) (fun _ => nofun) (rd_assign rfl) ?_
  refine run_nil ?_
  refine St.then_n ?_
  refine do_seq ?_
  refine do_region ?_
  first | refine run_read rfl (by decide) (fun _ => nofun) (rd_fieldAddr0 rfl fld28_0) ?_ | refine run_read rfl (by decide) (fun _ => nofun) (rd_fieldAddr rfl fld28_0) ?_
  refine run_read rfl (by decide) (fun _ => nofun) (rd_load rfl row3 (cells_pts1 (by repeat (first | with_reducible exact Sel.head | apply Sel.tail)) rfl)) ?_
  refine run_spec rfl (by decide) (by kernel_rfl) rfl (by repeat (first | exact Pick.nil | apply Pick.cons (by repeat (first | with_reducible exact Sel.head | apply Sel.tail)))) (refInt_spec _ _ _ _ (by first | with_reducible exact vwb_nil _ | exact Vw.sep hF (by repeat (first | with_reducible exact Sel.head | apply Sel.tail)) | exact Vw.sep hG (by repeat (first | with_reducible exact Sel.head | apply Sel.tail)) | exact Vw.sep vw_bytes (by repeat (first | with_reducible exact Sel.head | apply Sel.tail))) h1 (by first | omega | (simp only [List.length_append, List.length_nil, List.length_cons]; omega))) ?_
  rintro v1 -
  try simp only [List.cons_append, List.nil_append]
  refine run_read rfl (by decide) (fun _ => nofun) (rd_assign rfl) ?_
  refine run_nil ?_
  refine St.keep (β' := [(1, _), (3, _)]) ⟨rfl, rfl, trivial⟩ ?_
  refine St.then_n ?_
  refine do_seq ?_
  refine do_region ?_
  refine run_read rfl (by decide) (fun _ => nofun) (rd_move rfl) ?_
  first | refine run_read rfl (by decide) (fun _ => nofun) (rd_fieldAddr0 rfl fld28_1) ?_ | refine run_read rfl (by decide) (fun _ => nofun) (rd_fieldAddr rfl fld28_1) ?_
  refine run_read rfl (by decide) (fun _ => nofun) (rd_load_row (vs := [_, _, _, _, _, _, _]) rfl row24 rfl (cells_pts (by repeat (first | with_reducible exact Sel.head | apply Sel.tail)) rfl)) ?_
  refine run_spec rfl (by decide) (by kernel_rfl) rfl (by repeat (first | exact Pick.nil | apply Pick.cons (by repeat (first | with_reducible exact Sel.head | apply Sel.tail)))) (refPutOp_spec _ _ _ op (by first | with_reducible exact vwb_nil _ | exact Vw.sep hF (by repeat (first | with_reducible exact Sel.head | apply Sel.tail)) | exact Vw.sep hG (by repeat (first | with_reducible exact Sel.head | apply Sel.tail)) | exact Vw.sep vw_bytes (by repeat (first | with_reducible exact Sel.head | apply Sel.tail))) h2 (by first | omega | (simp only [List.length_append, List.length_nil, List.length_cons]; omega))) ?_
  rintro v2 -
  try simp only [List.cons_append, List.nil_append]
  refine run_read rfl (by decide) (fun _ => nofun) (rd_assign rfl) ?_
  refine run_nil ?_
  refine St.keep (β' := [(1, _), (3, _)]) ⟨rfl, rfl, trivial⟩ ?_
  refine St.then_n ?_
  refine do_seq ?_
  refine do_region ?_
  refine run_read rfl (by decide) (fun _ => nofun) (rd_move rfl) ?_
  first | refine run_read rfl (by decide) (fun _ => nofun) (rd_fieldAddr0 rfl fld28_2) ?_ | refine run_read rfl (by decide) (fun _ => nofun) (rd_fieldAddr rfl fld28_2) ?_
  refine run_read rfl (by decide) (fun _ => nofun) (rd_load rfl row9 (cells_pts1 (by repeat (first | with_reducible exact Sel.head | apply Sel.tail)) rfl)) ?_
  refine run_spec rfl (by decide) (by kernel_rfl) rfl (by repeat (first | exact Pick.nil | apply Pick.cons (by repeat (first | with_reducible exact Sel.head | apply Sel.tail)))) (refText_spec _ _ _ _ (by first | with_reducible exact vwb_nil _ | exact Vw.sep hF (by repeat (first | with_reducible exact Sel.head | apply Sel.tail)) | exact Vw.sep hG (by repeat (first | with_reducible exact Sel.head | apply Sel.tail)) | exact Vw.sep vw_bytes (by repeat (first | with_reducible exact Sel.head | apply Sel.tail))) h3 (by first | omega | (simp only [List.length_append, List.length_nil, List.length_cons]; omega))) ?_
  rintro v3 -
  try simp only [List.cons_append, List.nil_append]
  refine run_read rfl (by decide) (fun _ => nofun) (rd_assign rfl) ?_
  refine run_nil ?_
  refine St.keep (β' := [(1, _), (3, _)]) ⟨rfl, rfl, trivial⟩ ?_
  refine St.then_n ?_
  refine do_seq ?_
  refine do_region ?_
  refine run_read rfl (by decide) (fun _ => nofun) (rd_move rfl) ?_
  first | refine run_read rfl (by decide) (fun _ => nofun) (rd_fieldAddr0 rfl fld28_3) ?_ | refine run_read rfl (by decide) (fun _ => nofun) (rd_fieldAddr rfl fld28_3) ?_
  refine run_read rfl (by decide) (fun _ => nofun) (rd_load rfl row9 (cells_pts1 (by repeat (first | with_reducible exact Sel.head | apply Sel.tail)) rfl)) ?_
  refine run_spec rfl (by decide) (by kernel_rfl) rfl (by repeat (first | exact Pick.nil | apply Pick.cons (by repeat (first | with_reducible exact Sel.head | apply Sel.tail)))) (refText_spec _ _ _ _ (by first | with_reducible exact vwb_nil _ | exact Vw.sep hF (by repeat (first | with_reducible exact Sel.head | apply Sel.tail)) | exact Vw.sep hG (by repeat (first | with_reducible exact Sel.head | apply Sel.tail)) | exact Vw.sep vw_bytes (by repeat (first | with_reducible exact Sel.head | apply Sel.tail))) h4 (by first | omega | (simp only [List.length_append, List.length_nil, List.length_cons]; omega))) ?_
  rintro v4 -
  try simp only [List.cons_append, List.nil_append]
  refine run_read rfl (by decide) (fun _ => nofun) (rd_assign rfl) ?_
  refine run_nil ?_
  refine St.keep (β' := [(1, _), (3, _)]) ⟨rfl, rfl, trivial⟩ ?_
  refine St.then_n ?_
  refine do_seq ?_
  refine do_region ?_
  refine run_read rfl (by decide) (fun _ => nofun) (rd_move rfl) ?_
  first | refine run_read rfl (by decide) (fun _ => nofun) (rd_fieldAddr0 rfl fld28_4) ?_ | refine run_read rfl (by decide) (fun _ => nofun) (rd_fieldAddr rfl fld28_4) ?_
  refine run_read rfl (by decide) (fun _ => nofun) (rd_load rfl row2 (cells_pts1 (by repeat (first | with_reducible exact Sel.head | apply Sel.tail)) rfl)) ?_
  refine run_spec rfl (by decide) (by kernel_rfl) rfl (by repeat (first | exact Pick.nil | apply Pick.cons (by repeat (first | with_reducible exact Sel.head | apply Sel.tail)))) (refInt_spec _ _ _ _ (by first | with_reducible exact vwb_nil _ | exact Vw.sep hF (by repeat (first | with_reducible exact Sel.head | apply Sel.tail)) | exact Vw.sep hG (by repeat (first | with_reducible exact Sel.head | apply Sel.tail)) | exact Vw.sep vw_bytes (by repeat (first | with_reducible exact Sel.head | apply Sel.tail))) h5 (by first | omega | (simp only [List.length_append, List.length_nil, List.length_cons]; omega))) ?_
  rintro v5 -
  try simp only [List.cons_append, List.nil_append]
  refine run_read rfl (by decide) (fun _ => nofun) (rd_assign rfl) ?_
  refine run_nil ?_
  refine St.keep (β' := [(1, _), (3, _)]) ⟨rfl, rfl, trivial⟩ ?_
  refine St.then_n ?_
  refine do_seq ?_
  refine do_region ?_
  refine run_read rfl (by decide) (fun _ => nofun) (rd_move rfl) ?_
  first | refine run_read rfl (by decide) (fun _ => nofun) (rd_fieldAddr0 rfl fld28_5) ?_ | refine run_read rfl (by decide) (fun _ => nofun) (rd_fieldAddr rfl fld28_5) ?_
  refine run_read rfl (by decide) (fun _ => nofun) (rd_load rfl row25 (cells_pts1 (by repeat (first | with_reducible exact Sel.head | apply Sel.tail)) rfl)) ?_
  refine run_spec rfl (by decide) (by kernel_rfl) rfl (by repeat (first | exact Pick.nil | apply Pick.cons (by repeat (first | with_reducible exact Sel.head | apply Sel.tail)))) (refInt_spec _ _ _ _ (by first | with_reducible exact vwb_nil _ | exact Vw.sep hF (by repeat (first | with_reducible exact Sel.head | apply Sel.tail)) | exact Vw.sep hG (by repeat (first | with_reducible exact Sel.head | apply Sel.tail)) | exact Vw.sep vw_bytes (by repeat (first | with_reducible exact Sel.head | apply Sel.tail))) h6 (by first | omega | (simp only [List.length_append, List.length_nil, List.length_cons]; omega))) ?_
  rintro v6 -
  try simp only [List.cons_append, List.nil_append]
  refine run_read rfl (by decide) (fun _ => nofun) (rd_assign rfl) ?_
  refine run_nil ?_
  refine St.keep (β' := [(1, _), (3, _)]) ⟨rfl, rfl, trivial⟩ ?_
  refine St.then_n ?_
  refine do_seq ?_
  refine do_region ?_
  refine run_read rfl (by decide) (fun _ => nofun) (rd_move rfl) ?_
  first | refine run_read rfl (by decide) (fun _ => nofun) (rd_fieldAddr0 rfl fld28_6) ?_ | refine run_read rfl (by decide) (fun _ => nofun) (rd_fieldAddr rfl fld28_6) ?_
  refine run_read rfl (by decide) (fun _ => nofun) (rd_load rfl row3 (cells_pts1 (by repeat (first | with_reducible exact Sel.head | apply Sel.tail)) rfl)) ?_
  refine run_spec rfl (by decide) (by kernel_rfl) rfl (by repeat (first | exact Pick.nil | apply Pick.cons (by repeat (first | with_reducible exact Sel.head | apply Sel.tail)))) (refInt_spec _ _ _ _ (by first | with_reducible exact vwb_nil _ | exact Vw.sep hF (by repeat (first | with_reducible exact Sel.head | apply Sel.tail)) | exact Vw.sep hG (by repeat (first | with_reducible exact Sel.head | apply Sel.tail)) | exact Vw.sep vw_bytes (by repeat (first | with_reducible exact Sel.head | apply Sel.tail))) h7 (by first | omega | (simp only [List.length_append, List.length_nil, List.length_cons]; omega))) ?_
  rintro v7 -
  try simp only [List.cons_append, List.nil_append]
  refine run_read rfl (by decide) (fun _ => nofun) (rd_assign rfl) ?_
  refine run_nil ?_
  refine St.keep (β' := [(1, _), (3, _)]) ⟨rfl, rfl, trivial⟩ ?_
  refine St.then_n ?_
  refine do_seq ?_
  refine do_region ?_
  refine run_read rfl (by decide) (fun _ => nofun) (rd_move rfl) ?_
  first | refine run_read rfl (by decide) (fun _ => nofun) (rd_fieldAddr0 rfl fld28_7) ?_ | refine run_read rfl (by decide) (fun _ => nofun) (rd_fieldAddr rfl fld28_7) ?_
  refine run_read rfl (by decide) (fun _ => nofun) (rd_load rfl row2 (cells_pts1 (by repeat (first | with_reducible exact Sel.head | apply Sel.tail)) rfl)) ?_
  refine run_spec rfl (by decide) (by kernel_rfl) rfl (by repeat (first | exact Pick.nil | apply Pick.cons (by repeat (first | with_reducible exact Sel.head | apply Sel.tail)))) (refInt_spec _ _ _ _ (by first | with_reducible exact vwb_nil _ | exact Vw.sep hF (by repeat (first | with_reducible exact Sel.head | apply Sel.tail)) | exact Vw.sep hG (by repeat (first | with_reducible exact Sel.head | apply Sel.tail)) | exact Vw.sep vw_bytes (by repeat (first | with_reducible exact Sel.head | apply Sel.tail))) h8 (by first | omega | (simp only [List.length_append, List.length_nil, List.length_cons]; omega))) ?_
  rintro v8 -
  try simp only [List.cons_append, List.nil_append]
  refine run_read rfl (by decide) (fun _ => nofun) (rd_assign rfl) ?_
  refine run_nil ?_
  refine St.keep (β' := [(1, _), (3, _)]) ⟨rfl, rfl, trivial⟩ ?_
  refine St.then_n ?_
  refine do_seq ?_
  refine do_region ?_
  refine run_read rfl (by decide) (fun _ => nofun) (rd_move rfl) ?_
  first | refine run_read rfl (by decide) (fun _ => nofun) (rd_fieldAddr0 rfl fld28_8) ?_ | refine run_read rfl (by decide) (fun _ => nofun) (rd_fieldAddr rfl fld28_8) ?_
  refine run_read rfl (by decide) (fun _ => nofun) (rd_load rfl row3 (cells_pts1 (by repeat (first | with_reducible exact Sel.head | apply Sel.tail)) rfl)) ?_
  refine run_spec rfl (by decide) (by kernel_rfl) rfl (by repeat (first | exact Pick.nil | apply Pick.cons (by repeat (first | with_reducible exact Sel.head | apply Sel.tail)))) (refInt_spec _ _ _ _ (by first | with_reducible exact vwb_nil _ | exact Vw.sep hF (by repeat (first | with_reducible exact Sel.head | apply Sel.tail)) | exact Vw.sep hG (by repeat (first | with_reducible exact Sel.head | apply Sel.tail)) | exact Vw.sep vw_bytes (by repeat (first | with_reducible exact Sel.head | apply Sel.tail))) h9 (by first | omega | (simp only [List.length_append, List.length_nil, List.length_cons]; omega))) ?_
  rintro v9 -
  try simp only [List.cons_append, List.nil_append]
  refine run_read rfl (by decide) (fun _ => nofun) (rd_assign rfl) ?_
  refine run_nil ?_
  refine St.keep (β' := [(1, _), (3, _)]) ⟨rfl, rfl, trivial⟩ ?_
  refine St.then_n ?_
  refine do_seq ?_
  refine do_region ?_
  refine run_read rfl (by decide) (fun _ => nofun) (rd_move rfl) ?_
  first | refine run_read rfl (by decide) (fun _ => nofun) (rd_fieldAddr0 rfl fld28_9) ?_ | refine run_read rfl (by decide) (fun _ => nofun) (rd_fieldAddr rfl fld28_9) ?_
  refine run_read rfl (by decide) (fun _ => nofun) (rd_load rfl row4 (cells_pts1 (by repeat (first | with_reducible exact Sel.head | apply Sel.tail)) rfl)) ?_
  refine run_spec rfl (by decide) (by kernel_rfl) rfl (by repeat (first | exact Pick.nil | apply Pick.cons (by repeat (first | with_reducible exact Sel.head | apply Sel.tail)))) (refBool_spec _ _ _ _ (by first | with_reducible exact vwb_nil _ | exact Vw.sep hF (by repeat (first | with_reducible exact Sel.head | apply Sel.tail)) | exact Vw.sep hG (by repeat (first | with_reducible exact Sel.head | apply Sel.tail)) | exact Vw.sep vw_bytes (by repeat (first | with_reducible exact Sel.head | apply Sel.tail))) (by first | omega | (simp only [List.length_append, List.length_nil, List.length_cons]; omega))) ?_
  rintro v10 -
  try simp only [List.cons_append, List.nil_append]
  refine run_read rfl (by decide) (fun _ => nofun) (rd_assign rfl) ?_
  refine run_nil ?_
  refine St.keep (β' := [(1, _), (3, _)]) ⟨rfl, rfl, trivial⟩ ?_
  refine St.then_n ?_
  refine do_seq ?_
  refine do_region ?_
  refine run_read rfl (by decide) (fun _ => nofun) (rd_move rfl) ?_
  first | refine run_read rfl (by decide) (fun _ => nofun) (rd_fieldAddr0 rfl fld28_10) ?_ | refine run_read rfl (by decide) (fun _ => nofun) (rd_fieldAddr rfl fld28_10) ?_
  refine run_read rfl (by decide) (fun _ => nofun) (rd_load rfl row26 (cells_pts1 (by repeat (first | with_reducible exact Sel.head | apply Sel.tail)) rfl)) ?_
  refine run_spec rfl (by decide) (by kernel_rfl) rfl (by repeat (first | exact Pick.nil | apply Pick.cons (by repeat (first | with_reducible exact Sel.head | apply Sel.tail)))) (refByt_spec _ _ _ _ data (by first | with_reducible exact vwb_nil _ | exact Vw.sep hF (by repeat (first | with_reducible exact Sel.head | apply Sel.tail)) | exact Vw.sep hG (by repeat (first | with_reducible exact Sel.head | apply Sel.tail)) | exact Vw.sep vw_bytes (by repeat (first | with_reducible exact Sel.head | apply Sel.tail))) (Vw.sep hF (by repeat (first | with_reducible exact Sel.head | apply Sel.tail))) h10 (by first | omega | (simp only [List.length_append, List.length_nil, List.length_cons]; omega))) ?_
  rintro v11 -
  try simp only [List.cons_append, List.nil_append]
  refine run_read rfl (by decide) (fun _ => nofun) (rd_assign rfl) ?_
  refine run_nil ?_
  refine St.keep (β' := [(2, _)]) ⟨rfl, trivial⟩ ?_
  refine St.then_n ?_
  refine do_ret ?_
  refine do_ret1 Try.results75 (res_tmp rfl) ?_
  intro w hw
  exact ⟨v11, trivial, rfl, hw.sub (.cons (sel_bytes (by repeat (first | with_reducible exact Sel.head | apply Sel.tail)) (by simp [cmdB, txt])) (.cons (by repeat (first | with_reducible exact Sel.head | apply Sel.tail)) .nil))⟩
set_option maxRecDepth 4000 in
theorem refPutReply_spec (F : HP) (v : Value) (bs : List UInt8) (x : GReply) (hF : VwB F v bs) (hR : VwRows F x) (hx : x.ok) (hl : bs.length ≤ 8796093022208) :
    Spec Try.prog 81 [v, .agg x.L.toArray] [] F (fun _ : Value => True) (fun v' => v') (fun v' => [bytesO v' (bs ++ replyB x)]) := by
  intro ω w hh
  refine enter Try.func81 rfl Try.ntmps81 rfl hh ?_
  simp only [List.nil_append, argsB]
  obtain ⟨why, amount, A, c, rows⟩ := x
  obtain ⟨h1, h2, h3, h4⟩ := hx
  replace hR : Vw F (.slice A rows.length c) 2 rows.length (rows.flatMap rowC) := hR
  simp only [GReply.L, GReply.v]
  dsimp only at h1 h2 h3 h4
  refine St.vw hR .head (fun A' c' hv hc hm _ => ?_)
  cases hv
  have hn : rows.length ≤ 9223372036854775807 := by simp only [maxLen] at hm; omega
  have l1 := ivar_len h1
  have l2 := ivar_len h2
  have l3 := uvar_len64 (n := rows.length) (by omega)
  unfold i64r shortS at *
  refine do_seq ?_
  refine do_region ?_
  refine run_box_row rfl (by decide) rfl (fun b3 => ?_)
  refine run_read rfl (by decide) (fun _ => nofun) (rd_assign rfl) ?_
  refine run_nil ?_
  refine St.then_n ?_
  refine do_seq ?_
  refine do_region ?_
  refine run_read rfl (by decide) (fun _ => nofun) (rd_move rfl) ?_
  first | refine run_read rfl (by decide) (fun _ => nofun) (rd_fieldAddr0 rfl fld33_0) ?_ | refine run_read rfl (by decide) (fun _ => nofun) (rd_fieldAddr rfl fld33_0) ?_
  refine run_read rfl (by decide) (fun _ => nofun) (rd_load rfl row25 (cells_pts1 (by repeat (first | with_reducible exact Sel.head | apply Sel.tail)) rfl)) ?_
  refine run_spec rfl (by decide) (by kernel_rfl) rfl (by repeat (first | exact Pick.nil | apply Pick.cons (by repeat (first | with_reducible exact Sel.head | apply Sel.tail)))) (refInt_spec _ _ _ _ (by first | with_reducible exact vwb_nil _ | exact Vw.sep hF (by repeat (first | with_reducible exact Sel.head | apply Sel.tail)) | exact Vw.sep hG (by repeat (first | with_reducible exact Sel.head | apply Sel.tail)) | exact Vw.sep vw_bytes (by repeat (first | with_reducible exact Sel.head | apply Sel.tail))) h1 (by first | omega | (simp only [List.length_append, List.length_nil, List.length_cons]; omega))) ?_
  rintro v1 -
  try simp only [List.cons_append, List.nil_append]
  refine run_read rfl (by decide) (fun _ => nofun) (rd_assign rfl) ?_
  refine run_nil ?_
  refine St.keep (β' := [(0, _), (3, _)]) ⟨rfl, rfl, trivial⟩ ?_
  refine St.then_n ?_
  refine do_seq ?_
  refine do_region ?_
  refine run_read rfl (by decide) (fun _ => nofun) (rd_move rfl) ?_
  first | refine run_read rfl (by decide) (fun _ => nofun) (rd_fieldAddr0 rfl fld33_1) ?_ | refine run_read rfl (by decide) (fun _ => nofun) (rd_fieldAddr rfl fld33_1) ?_
  refine run_read rfl (by decide) (fun _ => nofun) (rd_load rfl row2 (cells_pts1 (by repeat (first | with_reducible exact Sel.head | apply Sel.tail)) rfl)) ?_
  refine run_spec rfl (by decide) (by kernel_rfl) rfl (by repeat (first | exact Pick.nil | apply Pick.cons (by repeat (first | with_reducible exact Sel.head | apply Sel.tail)))) (refInt_spec _ _ _ _ (by first | with_reducible exact vwb_nil _ | exact Vw.sep hF (by repeat (first | with_reducible exact Sel.head | apply Sel.tail)) | exact Vw.sep hG (by repeat (first | with_reducible exact Sel.head | apply Sel.tail)) | exact Vw.sep vw_bytes (by repeat (first | with_reducible exact Sel.head | apply Sel.tail))) h2 (by first | omega | (simp only [List.length_append, List.length_nil, List.length_cons]; omega))) ?_
  rintro v2 -
  try simp only [List.cons_append, List.nil_append]
  refine run_read rfl (by decide) (fun _ => nofun) (rd_assign rfl) ?_
  refine run_nil ?_
  refine St.keep (β' := [(0, _), (3, _)]) ⟨rfl, rfl, trivial⟩ ?_
  refine St.then_n ?_
  refine do_seq ?_
  refine do_region ?_
  refine run_read rfl (by decide) (fun _ => nofun) (rd_move rfl) ?_
  first | refine run_read rfl (by decide) (fun _ => nofun) (rd_fieldAddr0 rfl fld33_2) ?_ | refine run_read rfl (by decide) (fun _ => nofun) (rd_fieldAddr rfl fld33_2) ?_
  refine run_read rfl (by decide) (fun _ => nofun) (rd_load rfl row31 (cells_pts1 (by repeat (first | with_reducible exact Sel.head | apply Sel.tail)) rfl)) ?_
  refine run_read rfl (by decide) (fun _ => nofun) (rd_len Try.underlying31 rfl) ?_
  first | refine run_read rfl (by decide) (fun _ => nofun) ((rd_conv Try.underlying3 Try.underlying183 rfl).eq (congrArg (Value.int .u64) (IntWalk.u64_in _ (by omega)))) ?_ | refine run_read rfl (by decide) (fun _ => nofun) (rd_conv Try.underlying3 Try.underlying183 rfl) ?_
  refine run_spec rfl (by decide) (by kernel_rfl) rfl (by repeat (first | exact Pick.nil | apply Pick.cons (by repeat (first | with_reducible exact Sel.head | apply Sel.tail)))) (refUint_spec _ _ _ rows.length (by first | with_reducible exact vwb_nil _ | exact Vw.sep hF (by repeat (first | with_reducible exact Sel.head | apply Sel.tail)) | exact Vw.sep hG (by repeat (first | with_reducible exact Sel.head | apply Sel.tail)) | exact Vw.sep vw_bytes (by repeat (first | with_reducible exact Sel.head | apply Sel.tail))) (by omega) (by first | omega | (simp only [List.length_append, List.length_nil, List.length_cons]; omega))) ?_
  rintro v3 -
  try simp only [List.cons_append, List.nil_append]
  refine run_read rfl (by decide) (fun _ => nofun) (rd_assign rfl) ?_
  refine run_nil ?_
  refine St.keep (β' := [(0, _), (3, _)]) ⟨rfl, rfl, trivial⟩ ?_
  refine St.then_n ?_
  refine do_seq ?_
  refine do_seq ?_
  refine do_region ?_
  refine run_read rfl (by decide) (fun _ => nofun) (rd_assign rfl) ?_
  refine run_nil ?_
  refine St.then_n ?_
  refine do_block ?_
  refine do_loop (fun y : Nat × Value => y.1 ≤ rows.length)
    (fun y => [(0, y.2), (3, .pointer (some ⟨b3, 0, none⟩)), (5, .int .i64 y.1)])
    (fun y => [bytesO y.2 (bs ++ ivar why ++ ivar amount ++ uvar rows.length ++ (rows.take y.1).flatMap rowB), pts b3 33 [.int .i64 why, .int .i64 amount, .slice A rows.length c], F]) (fun y => rows.length - y.1)
    (0, v3) (Nat.zero_le _) ⟨rfl, rfl, rfl, trivial⟩ (by simp only [List.take_zero, List.flatMap_nil, List.append_nil]; exact (by repeat (first | exact Pick.nil | apply Pick.cons (by repeat (first | with_reducible exact Sel.head | apply Sel.tail))))) ?_
  rintro ⟨i, v4⟩ hi
  dsimp only at hi ⊢
  have hle := flat_take_le rowB rows i
  refine do_seq ?_
  refine do_seq ?_
  refine do_region ?_
  refine run_read rfl (by decide) (fun _ => nofun) (rd_move rfl) ?_
  first | refine run_read rfl (by decide) (fun _ => nofun) (rd_fieldAddr0 rfl fld33_2) ?_ | refine run_read rfl (by decide) (fun _ => nofun) (rd_fieldAddr rfl fld33_2) ?_
  refine run_read rfl (by decide) (fun _ => nofun) (rd_load rfl row31 (cells_pts1 (by repeat (first | with_reducible exact Sel.head | apply Sel.tail)) rfl)) ?_
  refine run_read rfl (by decide) (fun _ => nofun) (rd_len Try.underlying31 rfl) ?_
  refine run_read rfl (by decide) (fun _ => nofun) (rd_lt rfl rfl) ?_
  refine run_nil ?_
  refine St.keep (β' := [(0, _), (3, _), (5, _), (24, _)]) ⟨rfl, rfl, rfl, rfl, trivial⟩ ?_
  refine St.then_n ?_
  first | refine do_condp rfl (fun h24 => ?_) (fun h24 => ?_) | refine do_cond rfl (fun h24 => ?_) (fun h24 => ?_)
  · have hx := List.getElem?_eq_getElem (l := rows) (i := i) (by omega)
    have hxm := List.mem_of_getElem? hx
    generalize rows[i]'_ = x at hx hxm
    obtain ⟨hx1, hx2⟩ := h3 x hxm
    have hc0 := flat_cell (f := rowC) (k := 2) (j := 0) (u := .string (strOf x.name)) (fun _ => rfl) hx (by decide) rfl
    have hc1 := flat_cell (f := rowC) (k := 2) (j := 1) (u := .int .i64 x.amount) (fun _ => rfl) hx (by decide) rfl
    have hsucc := flat_take_succ rowB hx
    have hle2 := flat_take_le rowB rows (i + 1)
    rw [hsucc, List.length_append] at hle2
    have hxb : (rowB x).length = (uvar x.name.length).length + x.name.length + (ivar x.amount).length := by simp [rowB, txt]; omega
    refine St.vw_some hR (by repeat (first | with_reducible exact Sel.head | apply Sel.tail)) (by omega) (fun g of hg _ _ => ?_)
    subst hg
    refine do_skip ?_
    refine St.then_n ?_
    refine do_seq ?_
    refine do_block ?_
    refine do_seq ?_
    refine do_region ?_
    refine run_read rfl (by decide) (fun _ => nofun) (rd_move rfl) ?_
    first | refine run_read rfl (by decide) (fun _ => nofun) (rd_fieldAddr0 rfl fld33_2) ?_ | refine run_read rfl (by decide) (fun _ => nofun) (rd_fieldAddr rfl fld33_2) ?_
    refine run_read rfl (by decide) (fun _ => nofun) (rd_load rfl row31 (cells_pts1 (by repeat (first | with_reducible exact Sel.head | apply Sel.tail)) rfl)) ?_
    refine run_read rfl (by decide) (fun _ => nofun) (rd_move rfl) ?_
    refine run_read rfl (by decide) (fun _ => nofun) (rd_indexAddr Try.underlying31 ei108 rfl rfl (by omega) (by omega)) ?_
    refine run_read rfl (by decide) (fun _ => nofun) ((rd_fieldAddr rfl fld108_0).eq (show _ = Value.pointer (some ⟨g, of + (i * 2 + 0), none⟩) by simp)) ?_
    refine run_read rfl (by decide) (fun _ => nofun) (rd_load rfl row9 (Vw.cells1 hR (by repeat (first | with_reducible exact Sel.head | apply Sel.tail)) (by omega) hc0)) ?_
    refine run_spec rfl (by decide) (by kernel_rfl) rfl (by repeat (first | exact Pick.nil | apply Pick.cons (by repeat (first | with_reducible exact Sel.head | apply Sel.tail)))) (refText_spec _ _ _ _ (by first | with_reducible exact vwb_nil _ | exact Vw.sep hF (by repeat (first | with_reducible exact Sel.head | apply Sel.tail)) | exact Vw.sep hG (by repeat (first | with_reducible exact Sel.head | apply Sel.tail)) | exact Vw.sep vw_bytes (by repeat (first | with_reducible exact Sel.head | apply Sel.tail))) hx1 (by first | omega | (simp only [List.length_append, List.length_nil, List.length_cons]; omega))) ?_
    rintro v5 -
    try simp only [List.cons_append, List.nil_append]
    refine run_read rfl (by decide) (fun _ => nofun) (rd_assign rfl) ?_
    refine run_nil ?_
    refine St.keep (β' := [(0, _), (3, _), (5, _)]) ⟨rfl, rfl, rfl, trivial⟩ ?_
    refine St.then_n ?_
    refine do_region ?_
    refine run_read rfl (by decide) (fun _ => nofun) (rd_move rfl) ?_
    first | refine run_read rfl (by decide) (fun _ => nofun) (rd_fieldAddr0 rfl fld33_2) ?_ | refine run_read rfl (by decide) (fun _ => nofun) (rd_fieldAddr rfl fld33_2) ?_
    refine run_read rfl (by decide) (fun _ => nofun) (rd_load rfl row31 (cells_pts1 (by repeat (first | with_reducible exact Sel.head | apply Sel.tail)) rfl)) ?_
    refine run_read rfl (by decide) (fun _ => nofun) (rd_move rfl) ?_
    refine run_read rfl (by decide) (fun _ => nofun) (rd_indexAddr Try.underlying31 ei108 rfl rfl (by omega) (by omega)) ?_
    refine run_read rfl (by decide) (fun _ => nofun) ((rd_fieldAddr rfl fld108_1).eq (show _ = Value.pointer (some ⟨g, of + (i * 2 + 1), none⟩) by simp [Nat.add_assoc])) ?_
    refine run_read rfl (by decide) (fun _ => nofun) (rd_load rfl row2 (Vw.cells1 hR (by repeat (first | with_reducible exact Sel.head | apply Sel.tail)) (by omega) hc1)) ?_
    refine run_spec rfl (by decide) (by kernel_rfl) rfl (by repeat (first | exact Pick.nil | apply Pick.cons (by repeat (first | with_reducible exact Sel.head | apply Sel.tail)))) (refInt_spec _ _ _ _ (by first | with_reducible exact vwb_nil _ | exact Vw.sep hF (by repeat (first | with_reducible exact Sel.head | apply Sel.tail)) | exact Vw.sep hG (by repeat (first | with_reducible exact Sel.head | apply Sel.tail)) | exact Vw.sep vw_bytes (by repeat (first | with_reducible exact Sel.head | apply Sel.tail))) hx2 (by first | omega | (simp only [List.length_append, List.length_nil, List.length_cons]; omega))) ?_
    rintro v6 -
    try simp only [List.cons_append, List.nil_append]
    refine run_read rfl (by decide) (fun _ => nofun) (rd_assign rfl) ?_
    refine run_nil ?_
    refine St.keep (β' := [(0, _), (3, _), (5, _)]) ⟨rfl, rfl, rfl, trivial⟩ ?_
    refine St.blk_n ?_
    refine St.then_n ?_
    refine do_region ?_
    refine run_read rfl (by decide) (fun _ => nofun) (rd_move rfl) ?_
    first | refine run_read rfl (by decide) (fun _ => nofun) ((rd_add rfl rfl).eq (congrArg (Value.int .i64) (IntWalk.i64_in _ (by omega)))) ?_ | refine run_read rfl (by decide) (fun _ => nofun) (rd_add rfl rfl) ?_
    refine run_read rfl (by decide) (fun _ => nofun) (rd_assign rfl) ?_
    refine run_nil ?_
    refine St.then_n ?_
    refine loop_back (i + 1, v6) (by dsimp only; omega) (by dsimp only; omega) ⟨rfl, rfl, rfl, trivial⟩ (.cons (sel_bytes (by repeat (first | with_reducible exact Sel.head | apply Sel.tail)) ?_) (.cons (by repeat (first | with_reducible exact Sel.head | apply Sel.tail)) (.cons (by repeat (first | with_reducible exact Sel.head | apply Sel.tail)) .nil)))
    dsimp only
    rw [hsucc]
    simp [rowB, txt]
  · refine do_exit ?_
    refine St.then_x ?_
    refine St.then_x ?_
    refine St.blk_s ?_
    refine St.then_n ?_
    refine do_seq ?_
    refine do_region ?_
    refine run_read rfl (by decide) (fun _ => nofun) (rd_move rfl) ?_
    refine run_read rfl (by decide) (fun _ => nofun) (rd_assign rfl) ?_
    refine run_nil ?_
    refine St.keep (β' := [(4, _)]) ⟨rfl, trivial⟩ ?_
    refine St.then_n ?_
    refine do_ret ?_
    refine do_ret1 Try.results81 (res_tmp rfl) ?_
    intro w hw
    have e : rows.take i = rows := List.take_of_length_le (by omega)
    exact ⟨v4, trivial, rfl, hw.sub (.cons (sel_bytes (by repeat (first | with_reducible exact Sel.head | apply Sel.tail)) (by rw [e]; simp [replyB])) (.cons (by repeat (first | with_reducible exact Sel.head | apply Sel.tail)) .nil))⟩
/-- The reference's ask: too long where one text alone is. -/
theorem ref15_long (x : GAsk) (h : 65536 < x.cmd.data.length ∨ 65536 < x.cmd.id.length ∨ 65536 < x.cmd.name.length ∨ 65536 < x.cmd.op.src.length ∨ 65536 < x.cmd.op.dst.length ∨ 65536 < x.cmd.op.key.length) : 65536 < (askB x).length := by
  unfold askB txt cmdB opB txt
  simp only [List.length_append]
  omega
end Go.Proofs.Ytglcmlicfmmlpaa
