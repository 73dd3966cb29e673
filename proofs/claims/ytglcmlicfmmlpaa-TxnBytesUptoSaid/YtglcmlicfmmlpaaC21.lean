/-
  The law TxnBytes: it returns true and turns nothing that was there.
-/
import Derived.Test.YtglcmlicfmmlpaaC20
import Derived.Test.YtglcmlicfmmlpaaD1
import Derived.Test.YtglcmlicfmmlpaaTxnKnown
namespace Go.Proofs.Ytglcmlicfmmlpaa
open Go.RowKit
set_option linter.unusedSimpArgs false
set_option linter.unusedVariables false

set_option maxRecDepth 8000 in
set_option maxHeartbeats 4000000 in
theorem txnBytes_law (a : GAsk) (r : GRes) (v : Value) (B : List UInt8) (w : World) (G : Nat → Prop) (hA : Bs w G a.cmd.v a.cmd.data) (hD : Bs w G r.v r.data) (hR : Sl w G 2 r.reply.v r.reply.rows.length (r.reply.rows.flatMap rowC)) (hB : Bs w G v B)
    (ha : a.ok) (hr : r.ok) (hc : (cmdB a.cmd).length ≤ 1099511627776) (hn : r.reply.rows.length ≤ 5864062014805) (hl : B.length ≤ 140737488351232) :
    Calls Try.prog 8 #[.agg a.L.toArray, .agg r.L.toArray, v] w fun e w' => e = .returned (.bool true) ∧ Fr nowhere w w' := by
  refine enter (vs := [.agg a.L.toArray, .agg r.L.toArray, v]) Try.func8 rfl Try.ntmps8 rfl (Holds.init w) ?_
  simp only [argsB]
  have vA : VwB (kept w) a.cmd.v a.cmd.data := vw_kept (by decide) hA
  have vD : VwB (kept w) r.v r.data := vw_kept (by decide) hD
  have vR : VwRows (kept w) r.reply := vw_kept (by decide) hR
  have vB : VwB (kept w) v B := vw_kept (by decide) hB
  have hd1 : a.cmd.data.length ≤ 1099511627776 := ha.cmd.data
  have hd2 : r.data.length ≤ 1099511627776 := hr.data
  have back1 := parseA_back a ha
  have back2 := parseR_back r hr
  clear hA hD hR hB
  obtain ⟨ab, hab⟩ : ∃ ab, askB a = ab := ⟨_, rfl⟩
  obtain ⟨ro, hro⟩ : ∃ ro, resOut r = ro := ⟨_, rfl⟩
  obtain ⟨ry, hry⟩ : ∃ ry, resWhy r = ry := ⟨_, rfl⟩
  obtain ⟨g, ⟨kind, ⟨okind, osrc, odst, oamt, okey, oslot, oshard⟩, id, name, n, why, slot, epoch, at_, last, A, c, data⟩⟩ := a
  obtain ⟨rwhy, wait, ⟨pwhy, pamt, pA, pc, rows⟩, rA, rc, rdata⟩ := r
  dsimp only at ha hr hc hn hd1 hd2 vA vD vR back1 back2
  simp only [GAsk.L, GCmd.L, GCmd.v, GRes.L, GRes.v, GReply.v] at vA vD vR ⊢
  have vR2 : Vw (kept w) (.slice pA rows.length pc) 2 rows.length (rows.flatMap rowC) := vR
  rw [hab] at back1
  rw [hro, hry] at back2
  refine do_seq ?_
  refine do_region ?_
  refine run_box_row rfl (by decide) rfl (fun b3 => ?_)
  refine run_box_row rfl (by decide) rfl (fun b4 => ?_)
  refine run_read rfl (by decide) (fun _ => nofun) (rd_assign rfl) ?_
  refine run_nil ?_
  refine St.then_n ?_
  refine do_seq ?_
  refine do_draw [[1, 5, 6, 7, 8, 9, 10, 11], [5, 6, 7, 8, 9, 10, 11], [3, 4, 5, 6, 7, 8, 9, 10, 11], [4, 5, 6, 7, 8, 9, 10, 11], [5, 6, 7, 8, 9, 10, 11], [6, 7, 8, 9, 10, 11], [7, 8, 9, 10, 11], [8, 9, 10, 11], [10, 11], [11], [11], []] (by kernel_rfl) rfl ?_
  first | refine any_take (i := 0) (by kernel_rfl) rfl rfl (by decide) (fun _ _ _ _ _ h => h) rfl (rd_fieldAddr0 rfl fld30_0) ?_ | refine any_take (i := 0) (by kernel_rfl) rfl rfl (by decide) (fun _ _ _ _ _ h => h) rfl (rd_fieldAddr rfl fld30_0) ?_
  refine any_take (i := 1) (by kernel_rfl) rfl rfl (by decide) (fun _ _ _ _ _ h => h) rfl (rd_load rfl row3 (cells_pts1 (by repeat (first | with_reducible exact Sel.head | apply Sel.tail)) rfl)) ?_
  first | refine any_take (i := 2) (by kernel_rfl) rfl rfl (by decide) (fun _ _ _ _ _ h => h) rfl (rd_fieldAddr0 rfl fld30_1) ?_ | refine any_take (i := 2) (by kernel_rfl) rfl rfl (by decide) (fun _ _ _ _ _ h => h) rfl (rd_fieldAddr rfl fld30_1) ?_
  refine any_take (i := 3) (by kernel_rfl) rfl rfl (by decide) (fun _ _ _ _ _ h => h) rfl (rd_load_row (vs := [_, _, _, _, _, _, _, _, _, _, _, _, _, _, _, _, _]) rfl row28 rfl (cells_pts (by repeat (first | with_reducible exact Sel.head | apply Sel.tail)) rfl)) ?_
  refine any_run (j := 4) (by kernel_rfl) rfl ?_
  refine run_spec rfl (by decide) (by kernel_rfl) rfl (by repeat (first | exact Pick.nil | apply Pick.cons (by repeat (first | with_reducible exact Sel.head | apply Sel.tail)))) (given15_spec _ ⟨kind, ⟨okind, osrc, odst, oamt, okey, oslot, oshard⟩, id, name, n, why, slot, epoch, at_, last, A, c, data⟩ (Vw.sep vA (by repeat (first | with_reducible exact Sel.head | apply Sel.tail))) (by dsimp only; omega)) ?_
  rintro ⟨A1, c1⟩ -
  simp only [GCmd.L, GCmd.v]
  try simp only [List.cons_append, List.nil_append]
  refine run_nil ?_
  refine St.then_n ?_
  refine any_next (by apply Beh.drop (i := 3) (by kernel_rfl); apply Beh.drop (i := 2) (by kernel_rfl); (apply Beh.keep (i := 1) (by kernel_rfl) rfl (rd_load rfl row3 (cells_pts1 (by repeat (first | with_reducible exact Sel.head | apply Sel.tail)) rfl))); (first | apply Beh.keep (i := 0) (by kernel_rfl) rfl (rd_fieldAddr0 rfl fld30_0) | apply Beh.keep (i := 0) (by kernel_rfl) rfl (rd_fieldAddr rfl fld30_0)); exact .nil) ?_
  refine any_take (i := 5) (by kernel_rfl) rfl rfl (by decide) (fun _ _ _ _ _ h => h) rfl (rd_buildM (l := [(0, (Operand.tmp 32)), (1, (Operand.tmp 35))]) (vs := [_, _, _, _, _, _, _, _, _, _, _, _, _, _, _, _, _, _]) zero49 plc49 rfl rfl) ?_
  refine any_run (j := 6) (by kernel_rfl) rfl ?_
  refine run_spec rfl (by decide) (by kernel_rfl) rfl (by repeat (first | exact Pick.nil | apply Pick.cons (by repeat (first | with_reducible exact Sel.head | apply Sel.tail)))) (txnBytes_spec _ ⟨g, ⟨kind, ⟨okind, osrc, odst, oamt, okey, oslot, oshard⟩, id, name, n, why, slot, epoch, at_, last, A1, c1, data⟩⟩ (Vw.sep vw_bytes (by repeat (first | with_reducible exact Sel.head | apply Sel.tail))) ⟨ha.group, ⟨ha.cmd.kind, ha.cmd.op, ha.cmd.id, ha.cmd.name, ha.cmd.n, ha.cmd.why, ha.cmd.slot, ha.cmd.epoch, ha.cmd.at_, ha.cmd.data⟩⟩ hc) ?_
  rintro xv -
  rw [show askB ⟨g, ⟨kind, ⟨okind, osrc, odst, oamt, okey, oslot, oshard⟩, id, name, n, why, slot, epoch, at_, last, A1, c1, data⟩⟩ = ab from hab]
  try simp only [List.cons_append, List.nil_append]
  refine run_nil ?_
  refine St.then_n ?_
  refine any_next (by apply Beh.drop (i := 5) (by kernel_rfl); apply Beh.drop (i := 1) (by kernel_rfl); apply Beh.drop (i := 0) (by kernel_rfl); exact .nil) ?_
  refine any_take (i := 7) (by kernel_rfl) rfl rfl (by decide) (fun _ _ _ _ _ h => h) rfl (rd_move rfl) ?_
  refine any_take (i := 8) (by kernel_rfl) rfl rfl (by decide) (fun _ _ _ _ _ h => h) rfl (rd_extract rfl rfl) ?_
  refine any_take (i := 9) (by kernel_rfl) rfl rfl (by decide) (fun _ _ _ _ _ h => h) rfl (rd_extract rfl rfl) ?_
  refine any_take (i := 10) (by kernel_rfl) rfl rfl (by decide) (fun _ _ _ _ _ h => h) rfl (rd_assign rfl) ?_
  refine any_take (i := 11) (by kernel_rfl) rfl rfl (by decide) (fun _ _ _ _ _ h => h) rfl (rd_assign rfl) ?_
  refine any_nil (by kernel_rfl) ?_
  refine St.keep (β' := [(2, _), (3, _), (4, _), (7, _), (8, _)]) ⟨rfl, rfl, rfl, rfl, rfl, trivial⟩ ?_
  refine St.then_n ?_
  refine do_seq ?_
  refine do_region ?_
  refine run_read rfl (by decide) (fun _ => nofun) (rd_load_row (vs := [_, _, _, _, _, _, _, _, _, _, _, _, _, _, _, _, _, _]) rfl row30 rfl (cells_pts (by repeat (first | with_reducible exact Sel.head | apply Sel.tail)) rfl)) ?_
  refine run_spec rfl (by decide) (by kernel_rfl) rfl (by repeat (first | exact Pick.nil | apply Pick.cons (by repeat (first | with_reducible exact Sel.head | apply Sel.tail)))) (ref15Bytes_spec _ ⟨g, ⟨kind, ⟨okind, osrc, odst, oamt, okey, oslot, oshard⟩, id, name, n, why, slot, epoch, at_, last, A, c, data⟩⟩ (Vw.sep vA (by repeat (first | with_reducible exact Sel.head | apply Sel.tail))) ha hc) ?_
  rintro yv -
  rw [show askB ⟨g, ⟨kind, ⟨okind, osrc, odst, oamt, okey, oslot, oshard⟩, id, name, n, why, slot, epoch, at_, last, A, c, data⟩⟩ = ab from hab]
  try simp only [List.cons_append, List.nil_append]
  refine run_read rfl (by decide) (fun _ => nofun) (rd_move rfl) ?_
  refine run_read rfl (by decide) (fun _ => nofun) (rd_extract rfl rfl) ?_
  refine run_read rfl (by decide) (fun _ => nofun) (rd_extract rfl rfl) ?_
  refine run_read rfl (by decide) (fun _ => nofun) (rd_assign rfl) ?_
  refine run_read rfl (by decide) (fun _ => nofun) (rd_assign rfl) ?_
  refine run_nil ?_
  refine St.keep (β' := [(2, _), (3, _), (4, _), (7, _), (8, _), (9, _), (10, _)]) ⟨rfl, rfl, rfl, rfl, rfl, rfl, rfl, trivial⟩ ?_
  refine St.then_n ?_
  refine do_seq ?_
  refine do_region ?_
  refine run_read rfl (by decide) (fun _ => nofun) (rd_load_row (vs := [_, _, _, _, _, _]) rfl row35 rfl (cells_pts (by repeat (first | with_reducible exact Sel.head | apply Sel.tail)) rfl)) ?_
  refine run_spec rfl (by decide) (by kernel_rfl) rfl (by repeat (first | exact Pick.nil | apply Pick.cons (by repeat (first | with_reducible exact Sel.head | apply Sel.tail)))) (result15_spec _ ⟨rwhy, wait, ⟨pwhy, pamt, pA, pc, rows⟩, rA, rc, rdata⟩ (Vw.sep vD (by repeat (first | with_reducible exact Sel.head | apply Sel.tail))) (Vw.sep vR (by repeat (first | with_reducible exact Sel.head | apply Sel.tail))) (by dsimp only; omega) hn) ?_
  rintro ⟨⟨A2, c2⟩, ⟨A3, c3⟩⟩ -
  simp only [GRes.L, GRes.v, GReply.v]
  try simp only [List.cons_append, List.nil_append]
  refine run_spec rfl (by decide) (by kernel_rfl) rfl (by repeat (first | exact Pick.nil | apply Pick.cons (by repeat (first | with_reducible exact Sel.head | apply Sel.tail)))) (putResult_spec _ ⟨rwhy, wait, ⟨pwhy, pamt, A2, c2, rows⟩, A3, c3, rdata⟩ (Vw.sep vw_bytes (by repeat (first | with_reducible exact Sel.head | apply Sel.tail))) (Vw.sep vw_own (by repeat (first | with_reducible exact Sel.head | apply Sel.tail))) ⟨hr.why, ⟨hr.reply.why, hr.reply.amount, hr.reply.rows, hr.reply.bulk⟩, hr.data⟩) ?_
  rintro pv -
  rw [show resOut ⟨rwhy, wait, ⟨pwhy, pamt, A2, c2, rows⟩, A3, c3, rdata⟩ = ro from hro, show resWhy ⟨rwhy, wait, ⟨pwhy, pamt, A2, c2, rows⟩, A3, c3, rdata⟩ = ry from hry]
  try simp only [List.cons_append, List.nil_append]
  refine run_read rfl (by decide) (fun _ => nofun) (rd_move rfl) ?_
  refine run_read rfl (by decide) (fun _ => nofun) (rd_extract rfl rfl) ?_
  refine run_read rfl (by decide) (fun _ => nofun) (rd_extract rfl rfl) ?_
  refine run_read rfl (by decide) (fun _ => nofun) (rd_assign rfl) ?_
  refine run_read rfl (by decide) (fun _ => nofun) (rd_assign rfl) ?_
  refine run_nil ?_
  refine St.keep (β' := [(2, _), (3, _), (4, _), (7, _), (8, _), (9, _), (10, _), (11, _), (12, _)]) ⟨rfl, rfl, rfl, rfl, rfl, rfl, rfl, rfl, rfl, trivial⟩ ?_
  refine St.then_n ?_
  refine do_seq ?_
  refine do_region ?_
  refine run_read rfl (by decide) (fun _ => nofun) (rd_load_row (vs := [_, _, _, _, _, _]) rfl row35 rfl (cells_pts (by repeat (first | with_reducible exact Sel.head | apply Sel.tail)) rfl)) ?_
  refine run_spec rfl (by decide) (by kernel_rfl) rfl (by repeat (first | exact Pick.nil | apply Pick.cons (by repeat (first | with_reducible exact Sel.head | apply Sel.tail)))) (ref15PutResult_spec _ ⟨rwhy, wait, ⟨pwhy, pamt, pA, pc, rows⟩, rA, rc, rdata⟩ (Vw.sep vD (by repeat (first | with_reducible exact Sel.head | apply Sel.tail))) (Vw.sep vR (by repeat (first | with_reducible exact Sel.head | apply Sel.tail))) hr) ?_
  rintro qv -
  rw [show resOut ⟨rwhy, wait, ⟨pwhy, pamt, pA, pc, rows⟩, rA, rc, rdata⟩ = ro from hro, show resWhy ⟨rwhy, wait, ⟨pwhy, pamt, pA, pc, rows⟩, rA, rc, rdata⟩ = ry from hry]
  try simp only [List.cons_append, List.nil_append]
  refine run_read rfl (by decide) (fun _ => nofun) (rd_move rfl) ?_
  refine run_read rfl (by decide) (fun _ => nofun) (rd_extract rfl rfl) ?_
  refine run_read rfl (by decide) (fun _ => nofun) (rd_extract rfl rfl) ?_
  refine run_read rfl (by decide) (fun _ => nofun) (rd_assign rfl) ?_
  refine run_read rfl (by decide) (fun _ => nofun) (rd_assign rfl) ?_
  refine run_nil ?_
  refine St.keep (β' := [(2, _), (3, _), (4, _), (7, _), (8, _), (9, _), (10, _), (11, _), (12, _), (13, _), (14, _)]) ⟨rfl, rfl, rfl, rfl, rfl, rfl, rfl, rfl, rfl, rfl, rfl, trivial⟩ ?_
  refine St.then_n ?_
  refine do_seq ?_
  refine do_seq ?_
  refine do_region ?_
  refine run_read rfl (by decide) (fun _ => nofun) (rd_move rfl) ?_
  refine run_read rfl (by decide) (fun _ => nofun) (rd_bytes_string Try.underlying26 Try.underlying5 Try.underlying9 rfl (vw_bytes) (by repeat (first | with_reducible exact Sel.head | apply Sel.tail))) ?_
  refine run_read rfl (by decide) (fun _ => nofun) (rd_move rfl) ?_
  refine run_read rfl (by decide) (fun _ => nofun) (rd_bytes_string Try.underlying26 Try.underlying5 Try.underlying9 rfl (vw_bytes) (by repeat (first | with_reducible exact Sel.head | apply Sel.tail))) ?_
  refine run_read rfl (by decide) (fun _ => nofun) ((rd_str_neq rfl rfl).eq (show _ = Value.bool false by simp)) ?_
  refine run_read rfl (by decide) (fun _ => nofun) (rd_move rfl) ?_
  first | (refine run_skip rfl rfl ?_) | (refine run_read rfl (by decide) (fun _ => nofun) (rd_move rfl) ?_)
  first | (refine run_skip rfl rfl ?_) | (refine run_read rfl (by decide) (fun _ => nofun) (rd_move rfl) ?_)
  first | (refine run_skip rfl rfl ?_) | (refine run_read rfl (by decide) (fun _ => nofun) ((rd_ne rfl rfl).eq (show _ = Value.bool false by simp)) ?_)
  first | refine run_read rfl (by decide) (fun _ => nofun) (rd_pick_t rfl rfl) ?_ | refine run_read rfl (by decide) (fun _ => nofun) (rd_pick_f rfl rfl) ?_
  refine run_read rfl (by decide) (fun _ => nofun) (rd_move rfl) ?_
  first | (refine run_skip rfl rfl ?_) | (refine run_read rfl (by decide) (fun _ => nofun) (rd_move rfl) ?_)
  first | (refine run_skip rfl rfl ?_) | (refine run_read rfl (by decide) (fun _ => nofun) (rd_bytes_string Try.underlying26 Try.underlying5 Try.underlying9 rfl (vw_bytes) (by repeat (first | with_reducible exact Sel.head | apply Sel.tail))) ?_)
  first | (refine run_skip rfl rfl ?_) | (refine run_read rfl (by decide) (fun _ => nofun) (rd_move rfl) ?_)
  first | (refine run_skip rfl rfl ?_) | (refine run_read rfl (by decide) (fun _ => nofun) (rd_bytes_string Try.underlying26 Try.underlying5 Try.underlying9 rfl (vw_bytes) (by repeat (first | with_reducible exact Sel.head | apply Sel.tail))) ?_)
  first | (refine run_skip rfl rfl ?_) | (refine run_read rfl (by decide) (fun _ => nofun) ((rd_str_neq rfl rfl).eq (show _ = Value.bool false by simp)) ?_)
  first | refine run_read rfl (by decide) (fun _ => nofun) (rd_pick_t rfl rfl) ?_ | refine run_read rfl (by decide) (fun _ => nofun) (rd_pick_f rfl rfl) ?_
  refine run_read rfl (by decide) (fun _ => nofun) (rd_move rfl) ?_
  first | (refine run_skip rfl rfl ?_) | (refine run_read rfl (by decide) (fun _ => nofun) (rd_move rfl) ?_)
  first | (refine run_skip rfl rfl ?_) | (refine run_read rfl (by decide) (fun _ => nofun) (rd_move rfl) ?_)
  first | (refine run_skip rfl rfl ?_) | (refine run_read rfl (by decide) (fun _ => nofun) ((rd_ne rfl rfl).eq (show _ = Value.bool false by simp)) ?_)
  first | refine run_read rfl (by decide) (fun _ => nofun) (rd_pick_t rfl rfl) ?_ | refine run_read rfl (by decide) (fun _ => nofun) (rd_pick_f rfl rfl) ?_
  refine run_nil ?_
  refine St.keep (β' := [(2, _), (3, _), (4, _), (7, _), (8, _), (11, _), (12, _), (77, _)]) ⟨rfl, rfl, rfl, rfl, rfl, rfl, rfl, rfl, trivial⟩ ?_
  refine St.then_n ?_
  refine do_cond_f rfl ?_
  refine do_skip ?_
  refine St.then_n ?_
  refine do_seq ?_
  refine do_region ?_
  refine run_read rfl (by decide) (fun _ => nofun) (rd_move rfl) ?_
  refine run_spec rfl (by decide) (by kernel_rfl) rfl (by repeat (first | exact Pick.nil | apply Pick.cons (by repeat (first | with_reducible exact Sel.head | apply Sel.tail)))) (lent_spec _ v B (Vw.sep vB (by repeat (first | with_reducible exact Sel.head | apply Sel.tail))) hl) ?_
  rintro ov -
  try simp only [List.cons_append, List.nil_append]
  refine run_read rfl (by decide) (fun _ => nofun) (rd_assign rfl) ?_
  refine run_nil ?_
  refine St.then_n ?_
  refine do_seq ?_
  refine do_region ?_
  refine run_read rfl (by decide) (fun _ => nofun) (rd_move rfl) ?_
  refine run_spec rfl (by decide) (by kernel_rfl) rfl (by repeat (first | exact Pick.nil | apply Pick.cons (by repeat (first | with_reducible exact Sel.head | apply Sel.tail)))) (txnParse_spec _ ov B (Vw.sep vw_lent (by repeat (first | with_reducible exact Sel.head | apply Sel.tail))) (by omega)) ?_
  rintro ⟨xa1, ⟨xa2, ⟨xa3, xa4, xa5, xa6, xa7, xa8, xa9⟩, xa10, xa11, xa12, xa13, xa14, xa15, xa16, xa17, xa18, xa19, xa20⟩⟩ hx1
  simp only [GAsk.L, GCmd.L, GCmd.v]
  try simp only [List.cons_append, List.nil_append]
  refine run_read rfl (by decide) (fun _ => nofun) (rd_move rfl) ?_
  refine run_read rfl (by decide) (fun _ => nofun) (rd_extract rfl rfl) ?_
  refine run_read rfl (by decide) (fun _ => nofun) (rd_extract rfl rfl) ?_
  refine run_alloc rfl (by decide) zero49 (fun b16 => ?_)
  first | refine run_store_all rfl rfl rfl (by repeat (first | with_reducible exact Sel.head | apply Sel.tail)) row49 rfl rfl rfl ?_ | refine run_store_mid rfl rfl rfl (by repeat (first | with_reducible exact Sel.head | apply Sel.tail)) row49 rfl rfl rfl (by simp only [setL, List.length_cons, List.length_nil, Nat.reduceAdd, List.take_succ_cons, List.take_zero, List.drop_succ_cons, List.drop_zero, List.cons_append, List.nil_append, List.append_nil]; exact rfl) ?_
  refine run_read rfl (by decide) (fun _ => nofun) (rd_assign rfl) ?_
  refine run_nil ?_
  refine St.keep (β' := [(2, _), (3, _), (4, _), (7, _), (8, _), (11, _), (12, _), (15, _), (16, _), (17, _)]) ⟨rfl, rfl, rfl, rfl, rfl, rfl, rfl, rfl, rfl, rfl, trivial⟩ ?_
  refine St.then_n ?_
  refine do_seq ?_
  refine do_region ?_
  refine run_read rfl (by decide) (fun _ => nofun) (rd_move rfl) ?_
  refine run_spec rfl (by decide) (by kernel_rfl) rfl (by repeat (first | exact Pick.nil | apply Pick.cons (by repeat (first | with_reducible exact Sel.head | apply Sel.tail)))) (ref15Parse_spec _ v B (Vw.sep vB (by repeat (first | with_reducible exact Sel.head | apply Sel.tail))) (by omega)) ?_
  rintro ⟨ya1, ⟨ya2, ⟨ya3, ya4, ya5, ya6, ya7, ya8, ya9⟩, ya10, ya11, ya12, ya13, ya14, ya15, ya16, ya17, ya18, ya19, ya20⟩⟩ hx2
  simp only [GAsk.L, GCmd.L, GCmd.v]
  try simp only [List.cons_append, List.nil_append]
  refine run_read rfl (by decide) (fun _ => nofun) (rd_move rfl) ?_
  refine run_read rfl (by decide) (fun _ => nofun) (rd_extract rfl rfl) ?_
  refine run_read rfl (by decide) (fun _ => nofun) (rd_extract rfl rfl) ?_
  refine run_alloc rfl (by decide) zero30 (fun b18 => ?_)
  first | refine run_store_all rfl rfl rfl (by repeat (first | with_reducible exact Sel.head | apply Sel.tail)) row30 rfl rfl rfl ?_ | refine run_store_mid rfl rfl rfl (by repeat (first | with_reducible exact Sel.head | apply Sel.tail)) row30 rfl rfl rfl (by simp only [setL, List.length_cons, List.length_nil, Nat.reduceAdd, List.take_succ_cons, List.take_zero, List.drop_succ_cons, List.drop_zero, List.cons_append, List.nil_append, List.append_nil]; exact rfl) ?_
  refine run_read rfl (by decide) (fun _ => nofun) (rd_assign rfl) ?_
  refine run_nil ?_
  refine St.keep (β' := [(2, _), (3, _), (4, _), (7, _), (8, _), (11, _), (12, _), (15, _), (16, _), (17, _), (18, _), (19, _)]) ⟨rfl, rfl, rfl, rfl, rfl, rfl, rfl, rfl, rfl, rfl, rfl, rfl, trivial⟩ ?_
  refine St.then_n ?_
  refine do_seq ?_
  refine do_region ?_
  refine run_read rfl (by decide) (fun _ => nofun) (rd_move rfl) ?_
  refine run_spec rfl (by decide) (by kernel_rfl) rfl (by repeat (first | exact Pick.nil | apply Pick.cons (by repeat (first | with_reducible exact Sel.head | apply Sel.tail)))) (getResult_spec _ ov B (Vw.sep vw_lent (by repeat (first | with_reducible exact Sel.head | apply Sel.tail))) (by omega)) ?_
  rintro ⟨sa1, sa2, ⟨sa3, sa4, sa5, sa6, sa7⟩, sa8, sa9, sa10⟩ hy1
  simp only [GRes.L, GRes.v, GReply.v]
  try simp only [List.cons_append, List.nil_append]
  refine run_read rfl (by decide) (fun _ => nofun) (rd_move rfl) ?_
  refine run_read rfl (by decide) (fun _ => nofun) (rd_extract rfl rfl) ?_
  refine run_read rfl (by decide) (fun _ => nofun) (rd_extract rfl rfl) ?_
  refine run_alloc rfl (by decide) zero53 (fun b20 => ?_)
  first | refine run_store_all rfl rfl rfl (by repeat (first | with_reducible exact Sel.head | apply Sel.tail)) row53 rfl rfl rfl ?_ | refine run_store_mid rfl rfl rfl (by repeat (first | with_reducible exact Sel.head | apply Sel.tail)) row53 rfl rfl rfl (by simp only [setL, List.length_cons, List.length_nil, Nat.reduceAdd, List.take_succ_cons, List.take_zero, List.drop_succ_cons, List.drop_zero, List.cons_append, List.nil_append, List.append_nil]; exact rfl) ?_
  refine run_read rfl (by decide) (fun _ => nofun) (rd_assign rfl) ?_
  refine run_nil ?_
  refine St.keep (β' := [(2, _), (3, _), (4, _), (7, _), (8, _), (11, _), (12, _), (15, _), (16, _), (17, _), (18, _), (19, _), (20, _), (21, _)]) ⟨rfl, rfl, rfl, rfl, rfl, rfl, rfl, rfl, rfl, rfl, rfl, rfl, rfl, rfl, trivial⟩ ?_
  refine St.then_n ?_
  refine do_seq ?_
  refine do_region ?_
  refine run_read rfl (by decide) (fun _ => nofun) (rd_move rfl) ?_
  refine run_spec rfl (by decide) (by kernel_rfl) rfl (by repeat (first | exact Pick.nil | apply Pick.cons (by repeat (first | with_reducible exact Sel.head | apply Sel.tail)))) (ref15GetResult_spec _ v B (Vw.sep vB (by repeat (first | with_reducible exact Sel.head | apply Sel.tail))) (by omega)) ?_
  rintro ⟨ta1, ta2, ⟨ta3, ta4, ta5, ta6, ta7⟩, ta8, ta9, ta10⟩ hy2
  simp only [GRes.L, GRes.v, GReply.v]
  try simp only [List.cons_append, List.nil_append]
  refine run_read rfl (by decide) (fun _ => nofun) (rd_move rfl) ?_
  refine run_read rfl (by decide) (fun _ => nofun) (rd_extract rfl rfl) ?_
  refine run_read rfl (by decide) (fun _ => nofun) (rd_extract rfl rfl) ?_
  refine run_alloc rfl (by decide) zero35 (fun b22 => ?_)
  first | refine run_store_all rfl rfl rfl (by repeat (first | with_reducible exact Sel.head | apply Sel.tail)) row35 rfl rfl rfl ?_ | refine run_store_mid rfl rfl rfl (by repeat (first | with_reducible exact Sel.head | apply Sel.tail)) row35 rfl rfl rfl (by simp only [setL, List.length_cons, List.length_nil, Nat.reduceAdd, List.take_succ_cons, List.take_zero, List.drop_succ_cons, List.drop_zero, List.cons_append, List.nil_append, List.append_nil]; exact rfl) ?_
  refine run_read rfl (by decide) (fun _ => nofun) (rd_assign rfl) ?_
  refine run_nil ?_
  refine St.keep (β' := [(2, _), (3, _), (4, _), (7, _), (8, _), (11, _), (12, _), (15, _), (16, _), (17, _), (18, _), (19, _), (20, _), (21, _), (22, _), (23, _)]) ⟨rfl, rfl, rfl, rfl, rfl, rfl, rfl, rfl, rfl, rfl, rfl, rfl, rfl, rfl, rfl, rfl, trivial⟩ ?_
  refine St.then_n ?_
  refine do_seq ?_
  refine do_seq ?_
  refine do_draw [[1, 3, 4, 5, 6, 7, 8, 9, 10, 11, 12, 13, 14, 15, 16, 17, 18, 19, 20, 21, 22, 23, 24, 25, 26, 27], [3, 4, 5, 6, 7, 8, 9, 10, 11, 12, 13, 14, 15, 16, 17, 18, 19, 20, 21, 22, 23, 24, 25, 26, 27], [3, 4, 5, 6, 7, 8, 9, 10, 11, 12, 13, 14, 15, 16, 17, 18, 19, 20, 21, 22, 23, 24, 25, 26, 27], [4, 5, 6, 7, 8, 9, 10, 11, 12, 13, 14, 15, 16, 17, 18, 19, 20, 21, 22, 23, 24, 25, 26, 27], [5, 6, 7, 8, 9, 10, 11, 12, 13, 14, 15, 16, 17, 18, 19, 20, 21, 22, 23, 24, 25, 26, 27], [6, 7, 8, 9, 10, 11, 12, 13, 14, 15, 16, 17, 18, 19, 20, 21, 22, 23, 24, 25, 26, 27], [8, 9, 10, 11, 12, 13, 14, 15, 16, 17, 18, 19, 20, 21, 22, 23, 24, 25, 26, 27], [8, 9, 10, 11, 12, 13, 14, 15, 16, 17, 18, 19, 20, 21, 22, 23, 24, 25, 26, 27], [9, 10, 11, 12, 13, 14, 15, 16, 17, 18, 19, 20, 21, 22, 23, 24, 25, 26, 27], [10, 11, 12, 13, 14, 15, 16, 17, 18, 19, 20, 21, 22, 23, 24, 25, 26, 27], [11, 12, 13, 14, 15, 16, 17, 18, 19, 20, 21, 22, 23, 24, 25, 26, 27], [12, 14, 15, 16, 17, 18, 19, 20, 21, 22, 23, 24, 25, 26, 27], [14, 15, 16, 17, 18, 19, 20, 21, 22, 23, 24, 25, 26, 27], [14, 15, 16, 17, 18, 19, 20, 21, 22, 23, 24, 25, 26, 27], [15, 16, 17, 18, 19, 20, 21, 22, 23, 24, 25, 26, 27], [16, 17, 18, 19, 20, 21, 22, 23, 24, 25, 26, 27], [17, 18, 19, 20, 21, 22, 23, 24, 25, 26, 27], [18, 19, 20, 21, 22, 23, 24, 25, 26, 27], [20, 21, 22, 23, 24, 25, 26, 27], [20, 21, 22, 23, 24, 25, 26, 27], [21, 22, 23, 24, 25, 26, 27], [22, 23, 24, 25, 26, 27], [23, 24, 25, 26, 27], [25, 26, 27], [25, 26, 27], [26, 27], [27], []] (by kernel_rfl) rfl ?_
  refine any_take (i := 0) (by kernel_rfl) rfl rfl (by decide) (fun _ _ _ _ _ h => h) rfl (rd_load_row (vs := [_, _, _, _, _, _, _, _, _, _, _, _, _, _, _, _, _, _]) rfl row49 rfl (cells_pts (by repeat (first | with_reducible exact Sel.head | apply Sel.tail)) rfl)) ?_
  refine any_take (i := 2) (by kernel_rfl) rfl rfl (by decide) (fun _ _ _ _ _ h => h) rfl (rd_load_row (vs := [_, _, _, _, _, _, _, _, _, _, _, _, _, _, _, _, _, _]) rfl row30 rfl (cells_pts (by repeat (first | with_reducible exact Sel.head | apply Sel.tail)) rfl)) ?_
  refine any_run (j := 1) (by kernel_rfl) rfl ?_
  refine run_spec rfl (by decide) (by kernel_rfl) rfl (by repeat (first | exact Pick.nil | apply Pick.cons (by repeat (first | with_reducible exact Sel.head | apply Sel.tail)))) (as15_spec _ ⟨xa1, ⟨xa2, ⟨xa3, xa4, xa5, xa6, xa7, xa8, xa9⟩, xa10, xa11, xa12, xa13, xa14, xa15, xa16, xa17, xa18, xa19, xa20⟩⟩) ?_
  rintro ⟨⟩ -
  simp only [GAsk.L, GCmd.L, GCmd.v]
  try simp only [List.cons_append, List.nil_append]
  refine run_nil ?_
  refine St.then_n ?_
  refine any_next (by (apply Beh.keep (i := 2) (by kernel_rfl) rfl (rd_load_row (vs := [_, _, _, _, _, _, _, _, _, _, _, _, _, _, _, _, _, _]) rfl row30 rfl (cells_pts (by repeat (first | with_reducible exact Sel.head | apply Sel.tail)) rfl))); apply Beh.drop (i := 0) (by kernel_rfl); exact .nil) ?_
  refine any_run (j := 3) (by kernel_rfl) rfl ?_
  refine run_spec rfl (by decide) (by kernel_rfl) rfl (by repeat (first | exact Pick.nil | apply Pick.cons (by repeat (first | with_reducible exact Sel.head | apply Sel.tail)))) (same_spec _ ⟨xa1, ⟨xa2, ⟨xa3, xa4, xa5, xa6, xa7, xa8, xa9⟩, xa10, xa11, xa12, xa13, xa14, xa15, xa16, xa17, xa18, xa19, xa20⟩⟩ ⟨ya1, ⟨ya2, ⟨ya3, ya4, ya5, ya6, ya7, ya8, ya9⟩, ya10, ya11, ya12, ya13, ya14, ya15, ya16, ya17, ya18, ya19, ya20⟩⟩ (Vw.sep vw_bytes (by repeat (first | with_reducible exact Sel.head | apply Sel.tail))) (Vw.sep vw_bytes (by repeat (first | with_reducible exact Sel.head | apply Sel.tail))) (hx1.trans hx2.symm)) ?_
  rintro ⟨⟩ -
  try simp only [List.cons_append, List.nil_append]
  refine run_nil ?_
  refine St.then_n ?_
  refine any_next (by apply Beh.drop (i := 2) (by kernel_rfl); exact .nil) ?_
  refine any_take (i := 4) (by kernel_rfl) rfl rfl (by decide) (fun _ _ _ _ _ h => h) rfl (rd_not rfl) ?_
  refine any_take (i := 5) (by kernel_rfl) rfl rfl (by decide) (fun _ _ _ _ _ h => h) rfl (rd_move rfl) ?_
  first | refine any_skip (i := 6) (by kernel_rfl) rfl rfl (by decide) (fun _ _ _ _ _ h => h) rfl ?_ | refine any_take (i := 6) (by kernel_rfl) rfl rfl (by decide) (fun _ _ _ _ _ h => h) rfl (rd_move rfl) ?_
  first | refine any_skip (i := 7) (by kernel_rfl) rfl rfl (by decide) (fun _ _ _ _ _ h => h) rfl ?_ | refine any_take (i := 7) (by kernel_rfl) rfl rfl (by decide) (fun _ _ _ _ _ h => h) rfl (rd_move rfl) ?_
  first | refine any_skip (i := 8) (by kernel_rfl) rfl rfl (by decide) (fun _ _ _ _ _ h => h) rfl ?_ | refine any_take (i := 8) (by kernel_rfl) rfl rfl (by decide) (fun _ _ _ _ _ h => h) rfl ((rd_ne rfl rfl).eq (show _ = Value.bool false by simp)) ?_
  first | refine any_take (i := 9) (by kernel_rfl) rfl rfl (by decide) (fun _ _ _ _ _ h => h) rfl (rd_pick_t rfl rfl) ?_ | refine any_take (i := 9) (by kernel_rfl) rfl rfl (by decide) (fun _ _ _ _ _ h => h) rfl (rd_pick_f rfl rfl) ?_
  refine any_take (i := 10) (by kernel_rfl) rfl rfl (by decide) (fun _ _ _ _ _ h => h) rfl (rd_move rfl) ?_
  first | refine any_skip (i := 11) (by kernel_rfl) rfl rfl (by decide) (fun _ _ _ _ _ h => h) rfl ?_ | refine any_take (i := 11) (by kernel_rfl) rfl rfl (by decide) (fun _ _ _ _ _ h => h) rfl (rd_load_row (vs := [_, _, _, _, _, _]) rfl row53 rfl (cells_pts (by repeat (first | with_reducible exact Sel.head | apply Sel.tail)) rfl)) ?_
  first | refine any_skip (i := 13) (by kernel_rfl) rfl rfl (by decide) (fun _ _ _ _ _ h => h) rfl ?_ | refine any_take (i := 13) (by kernel_rfl) rfl rfl (by decide) (fun _ _ _ _ _ h => h) rfl (rd_load_row (vs := [_, _, _, _, _, _]) rfl row35 rfl (cells_pts (by repeat (first | with_reducible exact Sel.head | apply Sel.tail)) rfl)) ?_
  refine any_run (j := 12) (by kernel_rfl) rfl ?_
  first
    | (refine run_skip rfl rfl ?_)
    | (refine run_spec rfl (by decide) (by kernel_rfl) rfl (by repeat (first | exact Pick.nil | apply Pick.cons (by repeat (first | with_reducible exact Sel.head | apply Sel.tail)))) (told15_spec _ ⟨sa1, sa2, ⟨sa3, sa4, sa5, sa6, sa7⟩, sa8, sa9, sa10⟩) ?_
       rintro ⟨⟩ -
       simp only [GRes.L, GRes.v, GReply.v]
       try simp only [List.cons_append, List.nil_append])
  refine run_nil ?_
  refine St.then_n ?_
  refine any_next (by try (apply Beh.keep (i := 13) (by kernel_rfl) rfl (rd_load_row (vs := [_, _, _, _, _, _]) rfl row35 rfl (cells_pts (by repeat (first | with_reducible exact Sel.head | apply Sel.tail)) rfl))); try (apply Beh.drop (i := 11) (by kernel_rfl)); apply Beh.drop (i := 10) (by kernel_rfl); apply Beh.drop (i := 9) (by kernel_rfl); try (apply Beh.drop (i := 8) (by kernel_rfl)); try (apply Beh.drop (i := 7) (by kernel_rfl)); try (apply Beh.drop (i := 6) (by kernel_rfl)); apply Beh.drop (i := 5) (by kernel_rfl); apply Beh.drop (i := 4) (by kernel_rfl); exact .nil) ?_
  refine any_run (j := 14) (by kernel_rfl) rfl ?_
  first
    | (refine run_skip rfl rfl ?_)
    | (refine run_spec rfl (by decide) (by kernel_rfl) rfl (by repeat (first | exact Pick.nil | apply Pick.cons (by repeat (first | with_reducible exact Sel.head | apply Sel.tail)))) (sameResult_spec _ ⟨sa1, sa2, ⟨sa3, sa4, sa5, sa6, sa7⟩, sa8, sa9, sa10⟩ ⟨ta1, ta2, ⟨ta3, ta4, ta5, ta6, ta7⟩, ta8, ta9, ta10⟩ (Vw.sep vw_bytes (by repeat (first | with_reducible exact Sel.head | apply Sel.tail))) (Vw.sep vw_bytes (by repeat (first | with_reducible exact Sel.head | apply Sel.tail))) (Vw.sep vw_own (by repeat (first | with_reducible exact Sel.head | apply Sel.tail))) (Vw.sep vw_own (by repeat (first | with_reducible exact Sel.head | apply Sel.tail))) (hy1.trans hy2.symm)) ?_
       rintro ⟨⟩ -
       try simp only [List.cons_append, List.nil_append])
  refine run_nil ?_
  refine St.then_n ?_
  refine any_next (by try (apply Beh.drop (i := 13) (by kernel_rfl)); exact .nil) ?_
  first | refine any_skip (i := 15) (by kernel_rfl) rfl rfl (by decide) (fun _ _ _ _ _ h => h) rfl ?_ | refine any_take (i := 15) (by kernel_rfl) rfl rfl (by decide) (fun _ _ _ _ _ h => h) rfl (rd_not rfl) ?_
  first | refine any_take (i := 16) (by kernel_rfl) rfl rfl (by decide) (fun _ _ _ _ _ h => h) rfl (rd_pick_t rfl rfl) ?_ | refine any_take (i := 16) (by kernel_rfl) rfl rfl (by decide) (fun _ _ _ _ _ h => h) rfl (rd_pick_f rfl rfl) ?_
  refine any_take (i := 17) (by kernel_rfl) rfl rfl (by decide) (fun _ _ _ _ _ h => h) rfl (rd_move rfl) ?_
  first | refine any_skip (i := 18) (by kernel_rfl) rfl rfl (by decide) (fun _ _ _ _ _ h => h) rfl ?_ | refine any_take (i := 18) (by kernel_rfl) rfl rfl (by decide) (fun _ _ _ _ _ h => h) rfl (rd_move rfl) ?_
  first | refine any_skip (i := 19) (by kernel_rfl) rfl rfl (by decide) (fun _ _ _ _ _ h => h) rfl ?_ | refine any_take (i := 19) (by kernel_rfl) rfl rfl (by decide) (fun _ _ _ _ _ h => h) rfl (rd_move rfl) ?_
  first | refine any_skip (i := 20) (by kernel_rfl) rfl rfl (by decide) (fun _ _ _ _ _ h => h) rfl ?_ | refine any_take (i := 20) (by kernel_rfl) rfl rfl (by decide) (fun _ _ _ _ _ h => h) rfl ((rd_ne rfl rfl).eq (show _ = Value.bool false by simp)) ?_
  first | refine any_take (i := 21) (by kernel_rfl) rfl rfl (by decide) (fun _ _ _ _ _ h => h) rfl (rd_pick_t rfl rfl) ?_ | refine any_take (i := 21) (by kernel_rfl) rfl rfl (by decide) (fun _ _ _ _ _ h => h) rfl (rd_pick_f rfl rfl) ?_
  refine any_take (i := 22) (by kernel_rfl) rfl rfl (by decide) (fun _ _ _ _ _ h => h) rfl (rd_move rfl) ?_
  first | refine any_skip (i := 23) (by kernel_rfl) rfl rfl (by decide) (fun _ _ _ _ _ h => h) rfl ?_ | refine any_take (i := 23) (by kernel_rfl) rfl rfl (by decide) (fun _ _ _ _ _ h => h) rfl (rd_move rfl) ?_
  first | refine any_skip (i := 24) (by kernel_rfl) rfl rfl (by decide) (fun _ _ _ _ _ h => h) rfl ?_ | refine any_take (i := 24) (by kernel_rfl) rfl rfl (by decide) (fun _ _ _ _ _ h => h) rfl (rd_move rfl) ?_
  refine any_run (j := 25) (by kernel_rfl) rfl ?_
  first
    | (refine run_skip rfl rfl ?_)
    | (refine run_spec rfl (by decide) (by kernel_rfl) rfl (by repeat (first | exact Pick.nil | apply Pick.cons (by repeat (first | with_reducible exact Sel.head | apply Sel.tail)))) (kept_spec _ ov v B (Vw.sep vB (by repeat (first | with_reducible exact Sel.head | apply Sel.tail))) hl) ?_
       rintro ⟨⟩ -
       try simp only [List.cons_append, List.nil_append])
  refine run_nil ?_
  refine St.then_n ?_
  refine any_next (by try (apply Beh.drop (i := 24) (by kernel_rfl)); try (apply Beh.drop (i := 23) (by kernel_rfl)); apply Beh.drop (i := 22) (by kernel_rfl); apply Beh.drop (i := 21) (by kernel_rfl); try (apply Beh.drop (i := 20) (by kernel_rfl)); try (apply Beh.drop (i := 19) (by kernel_rfl)); try (apply Beh.drop (i := 18) (by kernel_rfl)); apply Beh.drop (i := 17) (by kernel_rfl); apply Beh.drop (i := 16) (by kernel_rfl); try (apply Beh.drop (i := 15) (by kernel_rfl)); exact .nil) ?_
  first | refine any_skip (i := 26) (by kernel_rfl) rfl rfl (by decide) (fun _ _ _ _ _ h => h) rfl ?_ | refine any_take (i := 26) (by kernel_rfl) rfl rfl (by decide) (fun _ _ _ _ _ h => h) rfl (rd_not rfl) ?_
  first | refine any_take (i := 27) (by kernel_rfl) rfl rfl (by decide) (fun _ _ _ _ _ h => h) rfl (rd_pick_t rfl rfl) ?_ | refine any_take (i := 27) (by kernel_rfl) rfl rfl (by decide) (fun _ _ _ _ _ h => h) rfl (rd_pick_f rfl rfl) ?_
  refine any_nil (by kernel_rfl) ?_
  refine St.keep (β' := [(3, _), (4, _), (7, _), (8, _), (11, _), (12, _), (15, _), (127, _)]) ⟨rfl, rfl, rfl, rfl, rfl, rfl, rfl, rfl, trivial⟩ ?_
  refine St.then_n ?_
  refine do_cond_f rfl ?_
  refine do_skip ?_
  refine St.then_n ?_
  refine do_seq ?_
  refine do_region ?_
  refine St.sel (P := lentO ov B) (by repeat (first | with_reducible exact Sel.head | apply Sel.tail)) (St.ent (fun _ => lent_bytes) ?_)
  refine run_read rfl (by decide) (fun _ => nofun) (rd_move rfl) ?_
  refine run_spec rfl (by decide) (by kernel_rfl) rfl (by repeat (first | exact Pick.nil | apply Pick.cons (by repeat (first | with_reducible exact Sel.head | apply Sel.tail)))) (spoil_spec _ ov B hl) ?_
  rintro ⟨⟩ -
  try simp only [List.cons_append, List.nil_append]
  refine run_nil ?_
  refine St.keep (β' := [(3, _), (4, _), (7, _), (8, _), (11, _), (12, _)]) ⟨rfl, rfl, rfl, rfl, rfl, rfl, trivial⟩ ?_
  refine St.then_n ?_
  refine do_seq ?_
  refine do_seq ?_
  refine do_cut (fun z : Bool => z = decide (¬ 65536 < ab.length ∧ 0 ≤ g ∧ g ≤ 3)) (fun z => [(3, .pointer (some ⟨b3, 0, none⟩)), (4, .pointer (some ⟨b4, 0, none⟩)), (7, xv), (11, pv), (12, .int .i64 ry), (141, .bool z)]) (fun _ => [pts b3 30 [.int .i64 g, .int .i64 kind, .int .i64 okind, .string (strOf osrc), .string (strOf odst), .int .i64 oamt, .string (strOf okey), .int .i64 oslot, .int .i64 oshard, .string (strOf id), .string (strOf name), .int .i64 n, .int .i64 why, .int .i64 slot, .int .i64 epoch, .int .i64 at_, .bool last, .slice A data.length c], pts b4 35 [.int .i64 rwhy, .bool wait, .int .i64 pwhy, .int .i64 pamt, .slice pA rows.length pc, .slice rA rdata.length rc], bytesO xv (atMost 65536 ab), bytesO pv ro, kept w]) (fun K hK => ?_) ?_
  · rcases (show (65536 < ab.length) ∨ (¬ 65536 < ab.length ∧ g < 0) ∨ (¬ 65536 < ab.length ∧ 0 ≤ g ∧ 3 < g) ∨ (¬ 65536 < ab.length ∧ 0 ≤ g ∧ g ≤ 3) by omega) with hA | hA | hA | hA
    · refine do_region ?_
      refine run_read rfl (by decide) (fun _ => nofun) (rd_move rfl) ?_
      first | refine run_read rfl (by decide) (fun _ => nofun) ((rd_eq rfl rfl).eq (congrArg Value.bool (decide_eq_true (long_no (by omega)).2))) ?_ | refine run_read rfl (by decide) (fun _ => nofun) ((rd_eq rfl rfl).eq (congrArg Value.bool (decide_eq_false (by rw [(long_yes (by omega)).2]; decide)))) ?_
      refine run_read rfl (by decide) (fun _ => nofun) (rd_move rfl) ?_
      first | (refine run_skip rfl rfl ?_) | (first | refine run_read rfl (by decide) (fun _ => nofun) (rd_fieldAddr0 rfl fld30_0) ?_ | refine run_read rfl (by decide) (fun _ => nofun) (rd_fieldAddr rfl fld30_0) ?_)
      first | (refine run_skip rfl rfl ?_) | (refine run_read rfl (by decide) (fun _ => nofun) (rd_load rfl row3 (cells_pts1 (by repeat (first | with_reducible exact Sel.head | apply Sel.tail)) rfl)) ?_)
      first | (refine run_skip rfl rfl ?_) | (first | refine run_read rfl (by decide) (fun _ => nofun) ((rd_ge rfl rfl).eq (show _ = Value.bool true by simp; omega)) ?_ | refine run_read rfl (by decide) (fun _ => nofun) ((rd_ge rfl rfl).eq (show _ = Value.bool false by simp; omega)) ?_)
      first | refine run_read rfl (by decide) (fun _ => nofun) (rd_pick_t rfl rfl) ?_ | refine run_read rfl (by decide) (fun _ => nofun) (rd_pick_f rfl rfl) ?_
      refine run_read rfl (by decide) (fun _ => nofun) (rd_move rfl) ?_
      first | (refine run_skip rfl rfl ?_) | (first | refine run_read rfl (by decide) (fun _ => nofun) (rd_fieldAddr0 rfl fld30_0) ?_ | refine run_read rfl (by decide) (fun _ => nofun) (rd_fieldAddr rfl fld30_0) ?_)
      first | (refine run_skip rfl rfl ?_) | (refine run_read rfl (by decide) (fun _ => nofun) (rd_load rfl row3 (cells_pts1 (by repeat (first | with_reducible exact Sel.head | apply Sel.tail)) rfl)) ?_)
      first | (refine run_skip rfl rfl ?_) | (first | refine run_read rfl (by decide) (fun _ => nofun) ((rd_le rfl rfl).eq (show _ = Value.bool true by simp; omega)) ?_ | refine run_read rfl (by decide) (fun _ => nofun) ((rd_le rfl rfl).eq (show _ = Value.bool false by simp; omega)) ?_)
      first | refine run_read rfl (by decide) (fun _ => nofun) (rd_pick_t rfl rfl) ?_ | refine run_read rfl (by decide) (fun _ => nofun) (rd_pick_f rfl rfl) ?_
      refine run_nil ?_
      refine St.keep (β' := [(3, _), (4, _), (7, _), (11, _), (12, _), (141, _)]) ⟨rfl, rfl, rfl, rfl, rfl, rfl, trivial⟩ ?_
      refine St.then_n ?_
      exact St.sub (by repeat (first | exact Pick.nil | apply Pick.cons (by repeat (first | with_reducible exact Sel.head | apply Sel.tail)))) (St.keep (β' := [(3, _), (4, _), (7, _), (11, _), (12, _), (141, _)]) ⟨rfl, rfl, rfl, rfl, rfl, rfl, trivial⟩ (hK _ (by first | exact (decide_eq_true (by omega)).symm | exact (decide_eq_false (by omega)).symm | exact decide_eq_decide.2 (by omega))))
    · refine do_region ?_
      refine run_read rfl (by decide) (fun _ => nofun) (rd_move rfl) ?_
      first | refine run_read rfl (by decide) (fun _ => nofun) ((rd_eq rfl rfl).eq (congrArg Value.bool (decide_eq_true (long_no (by omega)).2))) ?_ | refine run_read rfl (by decide) (fun _ => nofun) ((rd_eq rfl rfl).eq (congrArg Value.bool (decide_eq_false (by rw [(long_yes (by omega)).2]; decide)))) ?_
      refine run_read rfl (by decide) (fun _ => nofun) (rd_move rfl) ?_
      first | (refine run_skip rfl rfl ?_) | (first | refine run_read rfl (by decide) (fun _ => nofun) (rd_fieldAddr0 rfl fld30_0) ?_ | refine run_read rfl (by decide) (fun _ => nofun) (rd_fieldAddr rfl fld30_0) ?_)
      first | (refine run_skip rfl rfl ?_) | (refine run_read rfl (by decide) (fun _ => nofun) (rd_load rfl row3 (cells_pts1 (by repeat (first | with_reducible exact Sel.head | apply Sel.tail)) rfl)) ?_)
      first | (refine run_skip rfl rfl ?_) | (first | refine run_read rfl (by decide) (fun _ => nofun) ((rd_ge rfl rfl).eq (show _ = Value.bool true by simp; omega)) ?_ | refine run_read rfl (by decide) (fun _ => nofun) ((rd_ge rfl rfl).eq (show _ = Value.bool false by simp; omega)) ?_)
      first | refine run_read rfl (by decide) (fun _ => nofun) (rd_pick_t rfl rfl) ?_ | refine run_read rfl (by decide) (fun _ => nofun) (rd_pick_f rfl rfl) ?_
      refine run_read rfl (by decide) (fun _ => nofun) (rd_move rfl) ?_
      first | (refine run_skip rfl rfl ?_) | (first | refine run_read rfl (by decide) (fun _ => nofun) (rd_fieldAddr0 rfl fld30_0) ?_ | refine run_read rfl (by decide) (fun _ => nofun) (rd_fieldAddr rfl fld30_0) ?_)
      first | (refine run_skip rfl rfl ?_) | (refine run_read rfl (by decide) (fun _ => nofun) (rd_load rfl row3 (cells_pts1 (by repeat (first | with_reducible exact Sel.head | apply Sel.tail)) rfl)) ?_)
      first | (refine run_skip rfl rfl ?_) | (first | refine run_read rfl (by decide) (fun _ => nofun) ((rd_le rfl rfl).eq (show _ = Value.bool true by simp; omega)) ?_ | refine run_read rfl (by decide) (fun _ => nofun) ((rd_le rfl rfl).eq (show _ = Value.bool false by simp; omega)) ?_)
      first | refine run_read rfl (by decide) (fun _ => nofun) (rd_pick_t rfl rfl) ?_ | refine run_read rfl (by decide) (fun _ => nofun) (rd_pick_f rfl rfl) ?_
      refine run_nil ?_
      refine St.keep (β' := [(3, _), (4, _), (7, _), (11, _), (12, _), (141, _)]) ⟨rfl, rfl, rfl, rfl, rfl, rfl, trivial⟩ ?_
      refine St.then_n ?_
      exact St.sub (by repeat (first | exact Pick.nil | apply Pick.cons (by repeat (first | with_reducible exact Sel.head | apply Sel.tail)))) (St.keep (β' := [(3, _), (4, _), (7, _), (11, _), (12, _), (141, _)]) ⟨rfl, rfl, rfl, rfl, rfl, rfl, trivial⟩ (hK _ (by first | exact (decide_eq_true (by omega)).symm | exact (decide_eq_false (by omega)).symm | exact decide_eq_decide.2 (by omega))))
    · refine do_region ?_
      refine run_read rfl (by decide) (fun _ => nofun) (rd_move rfl) ?_
      first | refine run_read rfl (by decide) (fun _ => nofun) ((rd_eq rfl rfl).eq (congrArg Value.bool (decide_eq_true (long_no (by omega)).2))) ?_ | refine run_read rfl (by decide) (fun _ => nofun) ((rd_eq rfl rfl).eq (congrArg Value.bool (decide_eq_false (by rw [(long_yes (by omega)).2]; decide)))) ?_
      refine run_read rfl (by decide) (fun _ => nofun) (rd_move rfl) ?_
      first | (refine run_skip rfl rfl ?_) | (first | refine run_read rfl (by decide) (fun _ => nofun) (rd_fieldAddr0 rfl fld30_0) ?_ | refine run_read rfl (by decide) (fun _ => nofun) (rd_fieldAddr rfl fld30_0) ?_)
      first | (refine run_skip rfl rfl ?_) | (refine run_read rfl (by decide) (fun _ => nofun) (rd_load rfl row3 (cells_pts1 (by repeat (first | with_reducible exact Sel.head | apply Sel.tail)) rfl)) ?_)
      first | (refine run_skip rfl rfl ?_) | (first | refine run_read rfl (by decide) (fun _ => nofun) ((rd_ge rfl rfl).eq (show _ = Value.bool true by simp; omega)) ?_ | refine run_read rfl (by decide) (fun _ => nofun) ((rd_ge rfl rfl).eq (show _ = Value.bool false by simp; omega)) ?_)
      first | refine run_read rfl (by decide) (fun _ => nofun) (rd_pick_t rfl rfl) ?_ | refine run_read rfl (by decide) (fun _ => nofun) (rd_pick_f rfl rfl) ?_
      refine run_read rfl (by decide) (fun _ => nofun) (rd_move rfl) ?_
      first | (refine run_skip rfl rfl ?_) | (first | refine run_read rfl (by decide) (fun _ => nofun) (rd_fieldAddr0 rfl fld30_0) ?_ | refine run_read rfl (by decide) (fun _ => nofun) (rd_fieldAddr rfl fld30_0) ?_)
      first | (refine run_skip rfl rfl ?_) | (refine run_read rfl (by decide) (fun _ => nofun) (rd_load rfl row3 (cells_pts1 (by repeat (first | with_reducible exact Sel.head | apply Sel.tail)) rfl)) ?_)
      first | (refine run_skip rfl rfl ?_) | (first | refine run_read rfl (by decide) (fun _ => nofun) ((rd_le rfl rfl).eq (show _ = Value.bool true by simp; omega)) ?_ | refine run_read rfl (by decide) (fun _ => nofun) ((rd_le rfl rfl).eq (show _ = Value.bool false by simp; omega)) ?_)
      first | refine run_read rfl (by decide) (fun _ => nofun) (rd_pick_t rfl rfl) ?_ | refine run_read rfl (by decide) (fun _ => nofun) (rd_pick_f rfl rfl) ?_
      refine run_nil ?_
      refine St.keep (β' := [(3, _), (4, _), (7, _), (11, _), (12, _), (141, _)]) ⟨rfl, rfl, rfl, rfl, rfl, rfl, trivial⟩ ?_
      refine St.then_n ?_
      exact St.sub (by repeat (first | exact Pick.nil | apply Pick.cons (by repeat (first | with_reducible exact Sel.head | apply Sel.tail)))) (St.keep (β' := [(3, _), (4, _), (7, _), (11, _), (12, _), (141, _)]) ⟨rfl, rfl, rfl, rfl, rfl, rfl, trivial⟩ (hK _ (by first | exact (decide_eq_true (by omega)).symm | exact (decide_eq_false (by omega)).symm | exact decide_eq_decide.2 (by omega))))
    · refine do_region ?_
      refine run_read rfl (by decide) (fun _ => nofun) (rd_move rfl) ?_
      first | refine run_read rfl (by decide) (fun _ => nofun) ((rd_eq rfl rfl).eq (congrArg Value.bool (decide_eq_true (long_no (by omega)).2))) ?_ | refine run_read rfl (by decide) (fun _ => nofun) ((rd_eq rfl rfl).eq (congrArg Value.bool (decide_eq_false (by rw [(long_yes (by omega)).2]; decide)))) ?_
      refine run_read rfl (by decide) (fun _ => nofun) (rd_move rfl) ?_
      first | (refine run_skip rfl rfl ?_) | (first | refine run_read rfl (by decide) (fun _ => nofun) (rd_fieldAddr0 rfl fld30_0) ?_ | refine run_read rfl (by decide) (fun _ => nofun) (rd_fieldAddr rfl fld30_0) ?_)
      first | (refine run_skip rfl rfl ?_) | (refine run_read rfl (by decide) (fun _ => nofun) (rd_load rfl row3 (cells_pts1 (by repeat (first | with_reducible exact Sel.head | apply Sel.tail)) rfl)) ?_)
      first | (refine run_skip rfl rfl ?_) | (first | refine run_read rfl (by decide) (fun _ => nofun) ((rd_ge rfl rfl).eq (show _ = Value.bool true by simp; omega)) ?_ | refine run_read rfl (by decide) (fun _ => nofun) ((rd_ge rfl rfl).eq (show _ = Value.bool false by simp; omega)) ?_)
      first | refine run_read rfl (by decide) (fun _ => nofun) (rd_pick_t rfl rfl) ?_ | refine run_read rfl (by decide) (fun _ => nofun) (rd_pick_f rfl rfl) ?_
      refine run_read rfl (by decide) (fun _ => nofun) (rd_move rfl) ?_
      first | (refine run_skip rfl rfl ?_) | (first | refine run_read rfl (by decide) (fun _ => nofun) (rd_fieldAddr0 rfl fld30_0) ?_ | refine run_read rfl (by decide) (fun _ => nofun) (rd_fieldAddr rfl fld30_0) ?_)
      first | (refine run_skip rfl rfl ?_) | (refine run_read rfl (by decide) (fun _ => nofun) (rd_load rfl row3 (cells_pts1 (by repeat (first | with_reducible exact Sel.head | apply Sel.tail)) rfl)) ?_)
      first | (refine run_skip rfl rfl ?_) | (first | refine run_read rfl (by decide) (fun _ => nofun) ((rd_le rfl rfl).eq (show _ = Value.bool true by simp; omega)) ?_ | refine run_read rfl (by decide) (fun _ => nofun) ((rd_le rfl rfl).eq (show _ = Value.bool false by simp; omega)) ?_)
      first | refine run_read rfl (by decide) (fun _ => nofun) (rd_pick_t rfl rfl) ?_ | refine run_read rfl (by decide) (fun _ => nofun) (rd_pick_f rfl rfl) ?_
      refine run_nil ?_
      refine St.keep (β' := [(3, _), (4, _), (7, _), (11, _), (12, _), (141, _)]) ⟨rfl, rfl, rfl, rfl, rfl, rfl, trivial⟩ ?_
      refine St.then_n ?_
      exact St.sub (by repeat (first | exact Pick.nil | apply Pick.cons (by repeat (first | with_reducible exact Sel.head | apply Sel.tail)))) (St.keep (β' := [(3, _), (4, _), (7, _), (11, _), (12, _), (141, _)]) ⟨rfl, rfl, rfl, rfl, rfl, rfl, trivial⟩ (hK _ (by first | exact (decide_eq_true (by omega)).symm | exact (decide_eq_false (by omega)).symm | exact decide_eq_decide.2 (by omega))))
  rintro z hz
  refine do_cut (fun _ : Unit => True) (fun _ => [(4, .pointer (some ⟨b4, 0, none⟩)), (11, pv), (12, .int .i64 ry)]) (fun _ => [pts b4 35 [.int .i64 rwhy, .bool wait, .int .i64 pwhy, .int .i64 pamt, .slice pA rows.length pc, .slice rA rdata.length rc], bytesO pv ro, kept w]) (fun K hK => ?_) ?_
  · first | refine do_condp rfl (fun h141 => ?_) (fun h141 => ?_) | refine do_cond rfl (fun h141 => ?_) (fun h141 => ?_)
    · obtain ⟨q1, q2, q3⟩ := of_decide_eq_true (hz.symm.trans h141)
      rw [(long_no q1).1]
      have hback := back1 (by omega) q2 q3
      refine do_seq ?_
      refine do_region ?_
      refine run_read rfl (by decide) (fun _ => nofun) (rd_move rfl) ?_
      refine run_spec rfl (by decide) (by kernel_rfl) rfl (by repeat (first | exact Pick.nil | apply Pick.cons (by repeat (first | with_reducible exact Sel.head | apply Sel.tail)))) (txnParse_spec _ xv ab (Vw.sep vw_bytes (by repeat (first | with_reducible exact Sel.head | apply Sel.tail))) (by omega)) ?_
      rintro ⟨ua1, ⟨ua2, ⟨ua3, ua4, ua5, ua6, ua7, ua8, ua9⟩, ua10, ua11, ua12, ua13, ua14, ua15, ua16, ua17, ua18, ua19, ua20⟩⟩ hx3
      rw [hback] at hx3 ⊢
      dsimp only at hx3 ⊢
      simp only [GAsk.L, GCmd.L, GCmd.v]
      try simp only [List.cons_append, List.nil_append]
      refine run_read rfl (by decide) (fun _ => nofun) (rd_move rfl) ?_
      refine run_read rfl (by decide) (fun _ => nofun) (rd_extract rfl rfl) ?_
      refine run_read rfl (by decide) (fun _ => nofun) (rd_extract rfl rfl) ?_
      refine run_alloc rfl (by decide) zero49 (fun b24 => ?_)
      first | refine run_store_all rfl rfl rfl (by repeat (first | with_reducible exact Sel.head | apply Sel.tail)) row49 rfl rfl rfl ?_ | refine run_store_mid rfl rfl rfl (by repeat (first | with_reducible exact Sel.head | apply Sel.tail)) row49 rfl rfl rfl (by simp only [setL, List.length_cons, List.length_nil, Nat.reduceAdd, List.take_succ_cons, List.take_zero, List.drop_succ_cons, List.drop_zero, List.cons_append, List.nil_append, List.append_nil]; exact rfl) ?_
      refine run_read rfl (by decide) (fun _ => nofun) (rd_assign rfl) ?_
      refine run_nil ?_
      refine St.keep (β' := [(3, _), (4, _), (11, _), (12, _), (24, _), (25, _)]) ⟨rfl, rfl, rfl, rfl, rfl, rfl, trivial⟩ ?_
      refine St.then_n ?_
      refine do_seq ?_
      refine do_draw [[1, 2, 3, 4, 5, 6, 7, 8], [2, 3, 4, 5, 6, 7, 8], [3, 4, 5, 6, 7, 8], [4, 6, 7, 8], [6, 7, 8], [6, 7, 8], [7, 8], [8], []] (by kernel_rfl) rfl ?_
      refine any_take (i := 0) (by kernel_rfl) rfl rfl (by decide) (fun _ _ _ _ _ h => h) rfl (rd_move rfl) ?_
      refine any_take (i := 1) (by kernel_rfl) rfl rfl (by decide) (fun _ _ _ _ _ h => h) rfl ((rd_ne rfl rfl).eq (show _ = Value.bool false by simp)) ?_
      refine any_take (i := 2) (by kernel_rfl) rfl rfl (by decide) (fun _ _ _ _ _ h => h) rfl (rd_move rfl) ?_
      first | refine any_skip (i := 3) (by kernel_rfl) rfl rfl (by decide) (fun _ _ _ _ _ h => h) rfl ?_ | refine any_take (i := 3) (by kernel_rfl) rfl rfl (by decide) (fun _ _ _ _ _ h => h) rfl (rd_load_row (vs := [_, _, _, _, _, _, _, _, _, _, _, _, _, _, _, _, _, _]) rfl row49 rfl (cells_pts (by repeat (first | with_reducible exact Sel.head | apply Sel.tail)) rfl)) ?_
      first | refine any_skip (i := 5) (by kernel_rfl) rfl rfl (by decide) (fun _ _ _ _ _ h => h) rfl ?_ | refine any_take (i := 5) (by kernel_rfl) rfl rfl (by decide) (fun _ _ _ _ _ h => h) rfl (rd_load_row (vs := [_, _, _, _, _, _, _, _, _, _, _, _, _, _, _, _, _, _]) rfl row30 rfl (cells_pts (by repeat (first | with_reducible exact Sel.head | apply Sel.tail)) rfl)) ?_
      refine any_run (j := 4) (by kernel_rfl) rfl ?_
      first
        | (refine run_skip rfl rfl ?_)
        | (refine run_spec rfl (by decide) (by kernel_rfl) rfl (by repeat (first | exact Pick.nil | apply Pick.cons (by repeat (first | with_reducible exact Sel.head | apply Sel.tail)))) (as15_spec _ ⟨ua1, ⟨ua2, ⟨ua3, ua4, ua5, ua6, ua7, ua8, ua9⟩, ua10, ua11, ua12, ua13, ua14, ua15, ua16, ua17, ua18, ua19, ua20⟩⟩) ?_
           rintro ⟨⟩ -
           simp only [GAsk.L, GCmd.L, GCmd.v]
           try simp only [List.cons_append, List.nil_append])
      refine run_nil ?_
      refine St.then_n ?_
      refine any_next (by try (apply Beh.keep (i := 5) (by kernel_rfl) rfl (rd_load_row (vs := [_, _, _, _, _, _, _, _, _, _, _, _, _, _, _, _, _, _]) rfl row30 rfl (cells_pts (by repeat (first | with_reducible exact Sel.head | apply Sel.tail)) rfl))); try (apply Beh.drop (i := 3) (by kernel_rfl)); apply Beh.drop (i := 2) (by kernel_rfl); apply Beh.drop (i := 1) (by kernel_rfl); apply Beh.drop (i := 0) (by kernel_rfl); exact .nil) ?_
      refine any_run (j := 6) (by kernel_rfl) rfl ?_
      first
        | (refine run_skip rfl rfl ?_)
        | (refine run_spec rfl (by decide) (by kernel_rfl) rfl (by repeat (first | exact Pick.nil | apply Pick.cons (by repeat (first | with_reducible exact Sel.head | apply Sel.tail)))) (same_spec _ ⟨ua1, ⟨ua2, ⟨ua3, ua4, ua5, ua6, ua7, ua8, ua9⟩, ua10, ua11, ua12, ua13, ua14, ua15, ua16, ua17, ua18, ua19, ua20⟩⟩ ⟨g, ⟨kind, ⟨okind, osrc, odst, oamt, okey, oslot, oshard⟩, id, name, n, why, slot, epoch, at_, last, A, c, data⟩⟩ (Vw.sep vw_bytes (by repeat (first | with_reducible exact Sel.head | apply Sel.tail))) (Vw.sep vA (by repeat (first | with_reducible exact Sel.head | apply Sel.tail))) hx3) ?_
           rintro ⟨⟩ -
           try simp only [List.cons_append, List.nil_append])
      refine run_nil ?_
      refine St.then_n ?_
      refine any_next (by try (apply Beh.drop (i := 5) (by kernel_rfl)); exact .nil) ?_
      first | refine any_skip (i := 7) (by kernel_rfl) rfl rfl (by decide) (fun _ _ _ _ _ h => h) rfl ?_ | refine any_take (i := 7) (by kernel_rfl) rfl rfl (by decide) (fun _ _ _ _ _ h => h) rfl (rd_not rfl) ?_
      first | refine any_take (i := 8) (by kernel_rfl) rfl rfl (by decide) (fun _ _ _ _ _ h => h) rfl (rd_pick_t rfl rfl) ?_ | refine any_take (i := 8) (by kernel_rfl) rfl rfl (by decide) (fun _ _ _ _ _ h => h) rfl (rd_pick_f rfl rfl) ?_
      refine any_nil (by kernel_rfl) ?_
      refine St.keep (β' := [(4, _), (11, _), (12, _), (155, _)]) ⟨rfl, rfl, rfl, rfl, trivial⟩ ?_
      refine St.then_n ?_
      refine do_cond_f rfl ?_
      refine do_skip ?_
      refine St.then_n ?_
      exact St.sub (by repeat (first | exact Pick.nil | apply Pick.cons (by repeat (first | with_reducible exact Sel.head | apply Sel.tail)))) (St.keep (β' := [(4, _), (11, _), (12, _)]) ⟨rfl, rfl, rfl, trivial⟩ (hK () trivial))
    · refine do_skip ?_
      refine St.then_n ?_
      exact St.sub (by repeat (first | exact Pick.nil | apply Pick.cons (by repeat (first | with_reducible exact Sel.head | apply Sel.tail)))) (St.keep (β' := [(4, _), (11, _), (12, _)]) ⟨rfl, rfl, rfl, trivial⟩ (hK () trivial))
  rintro ⟨⟩ -
  refine do_seq ?_
  refine do_region ?_
  refine run_read rfl (by decide) (fun _ => nofun) (rd_assign rfl) ?_
  refine run_nil ?_
  refine St.then_n ?_
  refine do_seq ?_
  refine do_seq ?_
  refine do_region ?_
  refine run_read rfl (by decide) (fun _ => nofun) (rd_assign rfl) ?_
  refine run_nil ?_
  refine St.then_n ?_
  refine do_block ?_
  refine do_loop (fun y : Nat × Bool => y.1 ≤ rows.length ∧ (y.2 = false → ∀ x ∈ rows.take y.1, short6 x.name)) (fun y => [(4, .pointer (some ⟨b4, 0, none⟩)), (11, pv), (12, .int .i64 ry), (26, .bool y.2), (27, .int .i64 y.1)]) (fun _ => [pts b4 35 [.int .i64 rwhy, .bool wait, .int .i64 pwhy, .int .i64 pamt, .slice pA rows.length pc, .slice rA rdata.length rc], bytesO pv ro, kept w]) (fun y => rows.length - y.1) (0, false) ⟨Nat.zero_le _, fun _ x hx => by simp at hx⟩ ⟨rfl, rfl, rfl, rfl, rfl, trivial⟩ (by repeat (first | exact Pick.nil | apply Pick.cons (by repeat (first | with_reducible exact Sel.head | apply Sel.tail)))) ?_
  rintro ⟨i, lg⟩ ⟨hi, hlg⟩
  dsimp only at hi hlg ⊢
  refine do_seq ?_
  refine do_seq ?_
  refine do_region ?_
  refine run_read rfl (by decide) (fun _ => nofun) (rd_move rfl) ?_
  first | refine run_read rfl (by decide) (fun _ => nofun) (rd_fieldAddr0 rfl fld35_2) ?_ | refine run_read rfl (by decide) (fun _ => nofun) (rd_fieldAddr rfl fld35_2) ?_
  first | refine run_read rfl (by decide) (fun _ => nofun) (rd_fieldAddr0 rfl fld33_2) ?_ | refine run_read rfl (by decide) (fun _ => nofun) (rd_fieldAddr rfl fld33_2) ?_
  refine run_read rfl (by decide) (fun _ => nofun) (rd_load rfl row31 (cells_pts1 (by repeat (first | with_reducible exact Sel.head | apply Sel.tail)) rfl)) ?_
  refine run_read rfl (by decide) (fun _ => nofun) (rd_len Try.underlying31 rfl) ?_
  refine run_read rfl (by decide) (fun _ => nofun) (rd_lt rfl rfl) ?_
  refine run_nil ?_
  refine St.keep (β' := [(4, _), (11, _), (12, _), (26, _), (27, _), (161, _)]) ⟨rfl, rfl, rfl, rfl, rfl, rfl, trivial⟩ ?_
  refine St.then_n ?_
  first | refine do_condp rfl (fun h161 => ?_) (fun h161 => ?_) | refine do_cond rfl (fun h161 => ?_) (fun h161 => ?_)
  · have hx := List.getElem?_eq_getElem (l := rows) (i := i) (by omega)
    generalize rows[i]'_ = x at hx
    have hc0 := flat_cell (f := rowC) (k := 2) (j := 0) (u := .string (strOf x.name)) (fun _ => rfl) hx (by decide) rfl
    have hsz : (strOf x.name).size = x.name.length := strOf_size _
    refine St.vw_some vR2 (by repeat (first | with_reducible exact Sel.head | apply Sel.tail)) (by omega) (fun gp of hg _ _ => ?_)
    subst hg
    refine do_skip ?_
    refine St.then_n ?_
    refine do_seq ?_
    refine do_block ?_
    refine do_cutQ (fun z : Bool => z = false → ∀ y ∈ rows.take (i + 1), short6 y.name) (fun z => [(4, .pointer (some ⟨b4, 0, none⟩)), (11, pv), (12, .int .i64 ry), (26, .bool z), (27, .int .i64 i)]) (fun _ => [pts b4 35 [.int .i64 rwhy, .bool wait, .int .i64 pwhy, .int .i64 pamt, .slice (some ⟨gp, of, none⟩) rows.length pc, .slice rA rdata.length rc], bytesO pv ro, kept w]) (fun K hK => ?_) ?_
    · cases lg
      · refine do_region ?_
        refine run_read rfl (by decide) (fun _ => nofun) (rd_move rfl) ?_
        refine run_read rfl (by decide) (fun _ => nofun) (rd_move rfl) ?_
        first | (refine run_skip rfl rfl ?_) | (first | refine run_read rfl (by decide) (fun _ => nofun) (rd_fieldAddr0 rfl fld35_2) ?_ | refine run_read rfl (by decide) (fun _ => nofun) (rd_fieldAddr rfl fld35_2) ?_)
        first | (refine run_skip rfl rfl ?_) | (first | refine run_read rfl (by decide) (fun _ => nofun) (rd_fieldAddr0 rfl fld33_2) ?_ | refine run_read rfl (by decide) (fun _ => nofun) (rd_fieldAddr rfl fld33_2) ?_)
        first | (refine run_skip rfl rfl ?_) | (refine run_read rfl (by decide) (fun _ => nofun) (rd_load rfl row31 (cells_pts1 (by repeat (first | with_reducible exact Sel.head | apply Sel.tail)) rfl)) ?_)
        first | (refine run_skip rfl rfl ?_) | (refine run_read rfl (by decide) (fun _ => nofun) (rd_move rfl) ?_)
        first | (refine run_skip rfl rfl ?_) | (refine run_read rfl (by decide) (fun _ => nofun) (rd_indexAddr Try.underlying31 ei108 rfl rfl (by omega) (by omega)) ?_)
        first | (refine run_skip rfl rfl ?_) | (refine run_read rfl (by decide) (fun _ => nofun) ((rd_fieldAddr rfl fld108_0).eq (show _ = Value.pointer (some ⟨gp, of + (i * 2 + 0), none⟩) by simp)) ?_)
        first | (refine run_skip rfl rfl ?_) | (refine run_read rfl (by decide) (fun _ => nofun) (rd_load rfl row9 (Vw.cells1 vR2 (by repeat (first | with_reducible exact Sel.head | apply Sel.tail)) (by omega) hc0)) ?_)
        first | (refine run_skip rfl rfl ?_) | (refine run_read rfl (by decide) (fun _ => nofun) (rd_lens Try.underlying9 rfl) ?_)
        first | (refine run_skip rfl rfl ?_) | (refine run_read rfl (by decide) (fun _ => nofun) (rd_gt rfl rfl) ?_)
        first | refine run_read rfl (by decide) (fun _ => nofun) (rd_pick_t rfl rfl) ?_ | refine run_read rfl (by decide) (fun _ => nofun) (rd_pick_f rfl rfl) ?_
        refine run_read rfl (by decide) (fun _ => nofun) (rd_assign rfl) ?_
        refine run_nil ?_
        refine St.keep (β' := [(4, _), (11, _), (12, _), (26, _), (27, _), (166, _), (167, _), (168, _), (169, _), (170, _), (171, _), (172, _), (173, _), (174, _)]) ⟨rfl, rfl, rfl, rfl, rfl, rfl, rfl, rfl, rfl, rfl, rfl, rfl, rfl, rfl, trivial⟩ ?_
        refine St.then_n ?_
        refine St.sub (by repeat (first | exact Pick.nil | apply Pick.cons (by repeat (first | with_reducible exact Sel.head | apply Sel.tail)))) (St.keep (β' := [(4, _), (11, _), (12, _), (26, _), (27, _)]) ⟨rfl, rfl, rfl, rfl, rfl, trivial⟩ (hK _ ?_))
        first
          | (intro h; cases h; done)
          | (intro h y hy
             rw [List.take_add_one, hx] at hy
             rcases List.mem_append.1 hy with hy | hy
             · exact hlg rfl y hy
             · simp only [Option.toList_some, List.mem_singleton] at hy
               subst hy
               have := of_decide_eq_false h
               unfold short6
               omega)
      · refine do_region ?_
        refine run_read rfl (by decide) (fun _ => nofun) (rd_move rfl) ?_
        refine run_read rfl (by decide) (fun _ => nofun) (rd_move rfl) ?_
        first | (refine run_skip rfl rfl ?_) | (first | refine run_read rfl (by decide) (fun _ => nofun) (rd_fieldAddr0 rfl fld35_2) ?_ | refine run_read rfl (by decide) (fun _ => nofun) (rd_fieldAddr rfl fld35_2) ?_)
        first | (refine run_skip rfl rfl ?_) | (first | refine run_read rfl (by decide) (fun _ => nofun) (rd_fieldAddr0 rfl fld33_2) ?_ | refine run_read rfl (by decide) (fun _ => nofun) (rd_fieldAddr rfl fld33_2) ?_)
        first | (refine run_skip rfl rfl ?_) | (refine run_read rfl (by decide) (fun _ => nofun) (rd_load rfl row31 (cells_pts1 (by repeat (first | with_reducible exact Sel.head | apply Sel.tail)) rfl)) ?_)
        first | (refine run_skip rfl rfl ?_) | (refine run_read rfl (by decide) (fun _ => nofun) (rd_move rfl) ?_)
        first | (refine run_skip rfl rfl ?_) | (refine run_read rfl (by decide) (fun _ => nofun) (rd_indexAddr Try.underlying31 ei108 rfl rfl (by omega) (by omega)) ?_)
        first | (refine run_skip rfl rfl ?_) | (refine run_read rfl (by decide) (fun _ => nofun) ((rd_fieldAddr rfl fld108_0).eq (show _ = Value.pointer (some ⟨gp, of + (i * 2 + 0), none⟩) by simp)) ?_)
        first | (refine run_skip rfl rfl ?_) | (refine run_read rfl (by decide) (fun _ => nofun) (rd_load rfl row9 (Vw.cells1 vR2 (by repeat (first | with_reducible exact Sel.head | apply Sel.tail)) (by omega) hc0)) ?_)
        first | (refine run_skip rfl rfl ?_) | (refine run_read rfl (by decide) (fun _ => nofun) (rd_lens Try.underlying9 rfl) ?_)
        first | (refine run_skip rfl rfl ?_) | (refine run_read rfl (by decide) (fun _ => nofun) (rd_gt rfl rfl) ?_)
        first | refine run_read rfl (by decide) (fun _ => nofun) (rd_pick_t rfl rfl) ?_ | refine run_read rfl (by decide) (fun _ => nofun) (rd_pick_f rfl rfl) ?_
        refine run_read rfl (by decide) (fun _ => nofun) (rd_assign rfl) ?_
        refine run_nil ?_
        refine St.keep (β' := [(4, _), (11, _), (12, _), (26, _), (27, _), (166, _), (167, _), (168, _), (169, _), (170, _), (171, _), (172, _), (173, _), (174, _)]) ⟨rfl, rfl, rfl, rfl, rfl, rfl, rfl, rfl, rfl, rfl, rfl, rfl, rfl, rfl, trivial⟩ ?_
        refine St.then_n ?_
        refine St.sub (by repeat (first | exact Pick.nil | apply Pick.cons (by repeat (first | with_reducible exact Sel.head | apply Sel.tail)))) (St.keep (β' := [(4, _), (11, _), (12, _), (26, _), (27, _)]) ⟨rfl, rfl, rfl, rfl, rfl, trivial⟩ (hK _ ?_))
        first
          | (intro h; cases h; done)
          | (intro h y hy
             rw [List.take_add_one, hx] at hy
             rcases List.mem_append.1 hy with hy | hy
             · exact hlg rfl y hy
             · simp only [Option.toList_some, List.mem_singleton] at hy
               subst hy
               have := of_decide_eq_false h
               unfold short6
               omega)
    rintro z hz2
    refine St.blk_n ?_
    refine St.then_n ?_
    refine do_region ?_
    refine run_read rfl (by decide) (fun _ => nofun) (rd_move rfl) ?_
    first | refine run_read rfl (by decide) (fun _ => nofun) ((rd_add rfl rfl).eq (congrArg (Value.int .i64) (IntWalk.i64_in _ (by omega)))) ?_ | refine run_read rfl (by decide) (fun _ => nofun) (rd_add rfl rfl) ?_
    refine run_read rfl (by decide) (fun _ => nofun) (rd_assign rfl) ?_
    refine run_nil ?_
    refine St.then_n ?_
    exact loop_back (i + 1, z) ⟨by dsimp only; omega, hz2⟩ (by dsimp only; omega) ⟨rfl, rfl, rfl, rfl, rfl, trivial⟩ (by repeat (first | exact Pick.nil | apply Pick.cons (by repeat (first | with_reducible exact Sel.head | apply Sel.tail))))
  · refine do_exit ?_
    refine St.then_x ?_
    refine St.then_x ?_
    refine St.blk_s ?_
    refine St.then_n ?_
    refine do_seq ?_
    refine do_seq ?_
    refine do_cut (fun z : Bool => z = true → ry = 0 ∧ lg = false) (fun z => [(4, .pointer (some ⟨b4, 0, none⟩)), (11, pv), (181, .bool z)]) (fun _ => [pts b4 35 [.int .i64 rwhy, .bool wait, .int .i64 pwhy, .int .i64 pamt, .slice pA rows.length pc, .slice rA rdata.length rc], bytesO pv ro, kept w]) (fun K hK => ?_) ?_
    · rcases (show (ry ≠ 0) ∨ (ry = 0 ∧ lg = true) ∨ (ry = 0 ∧ lg = false) by cases lg <;> simp <;> omega) with hA | ⟨hA, hL⟩ | ⟨hA, hL⟩
      · refine do_region ?_
        refine run_read rfl (by decide) (fun _ => nofun) (rd_move rfl) ?_
        first | refine run_read rfl (by decide) (fun _ => nofun) ((rd_eq rfl rfl).eq (show _ = Value.bool true by simp; omega)) ?_ | refine run_read rfl (by decide) (fun _ => nofun) ((rd_eq rfl rfl).eq (show _ = Value.bool false by simp; omega)) ?_
        refine run_read rfl (by decide) (fun _ => nofun) (rd_move rfl) ?_
        first | (refine run_skip rfl rfl ?_) | (refine run_read rfl (by decide) (fun _ => nofun) (rd_move rfl) ?_)
        first | (refine run_skip rfl rfl ?_) | (first | refine run_read rfl (by decide) (fun _ => nofun) ((rd_not rfl).eq (show _ = Value.bool false by simp; exact hL)) ?_ | refine run_read rfl (by decide) (fun _ => nofun) ((rd_not rfl).eq (show _ = Value.bool true by simp; exact hL)) ?_)
        first | refine run_read rfl (by decide) (fun _ => nofun) (rd_pick_t rfl rfl) ?_ | refine run_read rfl (by decide) (fun _ => nofun) (rd_pick_f rfl rfl) ?_
        refine run_nil ?_
        refine St.keep (β' := [(4, _), (11, _), (181, _)]) ⟨rfl, rfl, rfl, trivial⟩ ?_
        refine St.then_n ?_
        exact St.sub (by repeat (first | exact Pick.nil | apply Pick.cons (by repeat (first | with_reducible exact Sel.head | apply Sel.tail)))) (St.keep (β' := [(4, _), (11, _), (181, _)]) ⟨rfl, rfl, rfl, trivial⟩ (hK _ (fun h => by first | exact ⟨hA, hL⟩ | cases h)))
      · refine do_region ?_
        refine run_read rfl (by decide) (fun _ => nofun) (rd_move rfl) ?_
        first | refine run_read rfl (by decide) (fun _ => nofun) ((rd_eq rfl rfl).eq (show _ = Value.bool true by simp; omega)) ?_ | refine run_read rfl (by decide) (fun _ => nofun) ((rd_eq rfl rfl).eq (show _ = Value.bool false by simp; omega)) ?_
        refine run_read rfl (by decide) (fun _ => nofun) (rd_move rfl) ?_
        first | (refine run_skip rfl rfl ?_) | (refine run_read rfl (by decide) (fun _ => nofun) (rd_move rfl) ?_)
        first | (refine run_skip rfl rfl ?_) | (first | refine run_read rfl (by decide) (fun _ => nofun) ((rd_not rfl).eq (show _ = Value.bool false by simp; exact hL)) ?_ | refine run_read rfl (by decide) (fun _ => nofun) ((rd_not rfl).eq (show _ = Value.bool true by simp; exact hL)) ?_)
        first | refine run_read rfl (by decide) (fun _ => nofun) (rd_pick_t rfl rfl) ?_ | refine run_read rfl (by decide) (fun _ => nofun) (rd_pick_f rfl rfl) ?_
        refine run_nil ?_
        refine St.keep (β' := [(4, _), (11, _), (181, _)]) ⟨rfl, rfl, rfl, trivial⟩ ?_
        refine St.then_n ?_
        exact St.sub (by repeat (first | exact Pick.nil | apply Pick.cons (by repeat (first | with_reducible exact Sel.head | apply Sel.tail)))) (St.keep (β' := [(4, _), (11, _), (181, _)]) ⟨rfl, rfl, rfl, trivial⟩ (hK _ (fun h => by first | exact ⟨hA, hL⟩ | cases h)))
      · refine do_region ?_
        refine run_read rfl (by decide) (fun _ => nofun) (rd_move rfl) ?_
        first | refine run_read rfl (by decide) (fun _ => nofun) ((rd_eq rfl rfl).eq (show _ = Value.bool true by simp; omega)) ?_ | refine run_read rfl (by decide) (fun _ => nofun) ((rd_eq rfl rfl).eq (show _ = Value.bool false by simp; omega)) ?_
        refine run_read rfl (by decide) (fun _ => nofun) (rd_move rfl) ?_
        first | (refine run_skip rfl rfl ?_) | (refine run_read rfl (by decide) (fun _ => nofun) (rd_move rfl) ?_)
        first | (refine run_skip rfl rfl ?_) | (first | refine run_read rfl (by decide) (fun _ => nofun) ((rd_not rfl).eq (show _ = Value.bool false by simp; exact hL)) ?_ | refine run_read rfl (by decide) (fun _ => nofun) ((rd_not rfl).eq (show _ = Value.bool true by simp; exact hL)) ?_)
        first | refine run_read rfl (by decide) (fun _ => nofun) (rd_pick_t rfl rfl) ?_ | refine run_read rfl (by decide) (fun _ => nofun) (rd_pick_f rfl rfl) ?_
        refine run_nil ?_
        refine St.keep (β' := [(4, _), (11, _), (181, _)]) ⟨rfl, rfl, rfl, trivial⟩ ?_
        refine St.then_n ?_
        exact St.sub (by repeat (first | exact Pick.nil | apply Pick.cons (by repeat (first | with_reducible exact Sel.head | apply Sel.tail)))) (St.keep (β' := [(4, _), (11, _), (181, _)]) ⟨rfl, rfl, rfl, trivial⟩ (hK _ (fun h => by first | exact ⟨hA, hL⟩ | cases h)))
    rintro z hz3
    first | refine do_condp rfl (fun h181 => ?_) (fun h181 => ?_) | refine do_cond rfl (fun h181 => ?_) (fun h181 => ?_)
    · obtain ⟨q1, q2⟩ := hz3 h181
      have hrl : rows.take i = rows := List.take_of_length_le (by omega)
      have hback2 := back2 q1 (by have := hlg q2; rwa [hrl] at this)
      have hrl2 : ro.length ≤ 140737488355328 := by
        rw [← hro]; unfold resOut atMost; split
        · simp
        · split
          · simp
          · omega
      refine do_seq ?_
      refine do_region ?_
      refine run_read rfl (by decide) (fun _ => nofun) (rd_move rfl) ?_
      refine run_spec rfl (by decide) (by kernel_rfl) rfl (by repeat (first | exact Pick.nil | apply Pick.cons (by repeat (first | with_reducible exact Sel.head | apply Sel.tail)))) (getResult_spec _ pv ro (Vw.sep vw_bytes (by repeat (first | with_reducible exact Sel.head | apply Sel.tail))) hrl2) ?_
      rintro ⟨za1, za2, ⟨za3, za4, za5, za6, za7⟩, za8, za9, za10⟩ hy3
      rw [hback2] at hy3 ⊢
      dsimp only at hy3 ⊢
      simp only [GRes.L, GRes.v, GReply.v]
      try simp only [List.cons_append, List.nil_append]
      refine run_read rfl (by decide) (fun _ => nofun) (rd_move rfl) ?_
      refine run_read rfl (by decide) (fun _ => nofun) (rd_extract rfl rfl) ?_
      refine run_read rfl (by decide) (fun _ => nofun) (rd_extract rfl rfl) ?_
      refine run_alloc rfl (by decide) zero53 (fun b28 => ?_)
      first | refine run_store_all rfl rfl rfl (by repeat (first | with_reducible exact Sel.head | apply Sel.tail)) row53 rfl rfl rfl ?_ | refine run_store_mid rfl rfl rfl (by repeat (first | with_reducible exact Sel.head | apply Sel.tail)) row53 rfl rfl rfl (by simp only [setL, List.length_cons, List.length_nil, Nat.reduceAdd, List.take_succ_cons, List.take_zero, List.drop_succ_cons, List.drop_zero, List.cons_append, List.nil_append, List.append_nil]; exact rfl) ?_
      refine run_read rfl (by decide) (fun _ => nofun) (rd_assign rfl) ?_
      refine run_nil ?_
      refine St.keep (β' := [(4, _), (28, _), (29, _)]) ⟨rfl, rfl, rfl, trivial⟩ ?_
      refine St.then_n ?_
      refine do_seq ?_
      refine do_draw [[1, 2, 3, 4, 5, 6, 7, 8], [2, 3, 4, 5, 6, 7, 8], [3, 4, 5, 6, 7, 8], [4, 6, 7, 8], [6, 7, 8], [6, 7, 8], [7, 8], [8], []] (by kernel_rfl) rfl ?_
      refine any_take (i := 0) (by kernel_rfl) rfl rfl (by decide) (fun _ _ _ _ _ h => h) rfl (rd_move rfl) ?_
      refine any_take (i := 1) (by kernel_rfl) rfl rfl (by decide) (fun _ _ _ _ _ h => h) rfl ((rd_ne rfl rfl).eq (show _ = Value.bool false by simp)) ?_
      refine any_take (i := 2) (by kernel_rfl) rfl rfl (by decide) (fun _ _ _ _ _ h => h) rfl (rd_move rfl) ?_
      first | refine any_skip (i := 3) (by kernel_rfl) rfl rfl (by decide) (fun _ _ _ _ _ h => h) rfl ?_ | refine any_take (i := 3) (by kernel_rfl) rfl rfl (by decide) (fun _ _ _ _ _ h => h) rfl (rd_load_row (vs := [_, _, _, _, _, _]) rfl row53 rfl (cells_pts (by repeat (first | with_reducible exact Sel.head | apply Sel.tail)) rfl)) ?_
      first | refine any_skip (i := 5) (by kernel_rfl) rfl rfl (by decide) (fun _ _ _ _ _ h => h) rfl ?_ | refine any_take (i := 5) (by kernel_rfl) rfl rfl (by decide) (fun _ _ _ _ _ h => h) rfl (rd_load_row (vs := [_, _, _, _, _, _]) rfl row35 rfl (cells_pts (by repeat (first | with_reducible exact Sel.head | apply Sel.tail)) rfl)) ?_
      refine any_run (j := 4) (by kernel_rfl) rfl ?_
      first
        | (refine run_skip rfl rfl ?_)
        | (refine run_spec rfl (by decide) (by kernel_rfl) rfl (by repeat (first | exact Pick.nil | apply Pick.cons (by repeat (first | with_reducible exact Sel.head | apply Sel.tail)))) (told15_spec _ ⟨za1, za2, ⟨za3, za4, za5, za6, za7⟩, za8, za9, za10⟩) ?_
           rintro ⟨⟩ -
           simp only [GRes.L, GRes.v, GReply.v]
           try simp only [List.cons_append, List.nil_append])
      refine run_nil ?_
      refine St.then_n ?_
      refine any_next (by try (apply Beh.keep (i := 5) (by kernel_rfl) rfl (rd_load_row (vs := [_, _, _, _, _, _]) rfl row35 rfl (cells_pts (by repeat (first | with_reducible exact Sel.head | apply Sel.tail)) rfl))); try (apply Beh.drop (i := 3) (by kernel_rfl)); apply Beh.drop (i := 2) (by kernel_rfl); apply Beh.drop (i := 1) (by kernel_rfl); apply Beh.drop (i := 0) (by kernel_rfl); exact .nil) ?_
      refine any_run (j := 6) (by kernel_rfl) rfl ?_
      first
        | (refine run_skip rfl rfl ?_)
        | (refine run_spec rfl (by decide) (by kernel_rfl) rfl (by repeat (first | exact Pick.nil | apply Pick.cons (by repeat (first | with_reducible exact Sel.head | apply Sel.tail)))) (sameResult_spec _ ⟨za1, za2, ⟨za3, za4, za5, za6, za7⟩, za8, za9, za10⟩ ⟨rwhy, wait, ⟨pwhy, pamt, pA, pc, rows⟩, rA, rc, rdata⟩ (Vw.sep vw_bytes (by repeat (first | with_reducible exact Sel.head | apply Sel.tail))) (Vw.sep vD (by repeat (first | with_reducible exact Sel.head | apply Sel.tail))) (Vw.sep vw_own (by repeat (first | with_reducible exact Sel.head | apply Sel.tail))) (Vw.sep vR (by repeat (first | with_reducible exact Sel.head | apply Sel.tail))) hy3) ?_
           rintro ⟨⟩ -
           try simp only [List.cons_append, List.nil_append])
      refine run_nil ?_
      refine St.then_n ?_
      refine any_next (by try (apply Beh.drop (i := 5) (by kernel_rfl)); exact .nil) ?_
      first | refine any_skip (i := 7) (by kernel_rfl) rfl rfl (by decide) (fun _ _ _ _ _ h => h) rfl ?_ | refine any_take (i := 7) (by kernel_rfl) rfl rfl (by decide) (fun _ _ _ _ _ h => h) rfl (rd_not rfl) ?_
      first | refine any_take (i := 8) (by kernel_rfl) rfl rfl (by decide) (fun _ _ _ _ _ h => h) rfl (rd_pick_t rfl rfl) ?_ | refine any_take (i := 8) (by kernel_rfl) rfl rfl (by decide) (fun _ _ _ _ _ h => h) rfl (rd_pick_f rfl rfl) ?_
      refine any_nil (by kernel_rfl) ?_
      refine St.keep (β' := [(195, _)]) ⟨rfl, trivial⟩ ?_
      refine St.then_n ?_
      refine do_cond_f rfl ?_
      refine do_skip ?_
      refine St.then_n ?_
      refine do_seq ?_
      refine do_region ?_
      refine run_spec rfl (by decide) (by kernel_rfl) rfl (by repeat (first | exact Pick.nil | apply Pick.cons (by repeat (first | with_reducible exact Sel.head | apply Sel.tail)))) (spec_fr (fun w => known15_any w)) ?_
      rintro ⟨⟩ -
      try simp only [List.cons_append, List.nil_append]
      refine run_read rfl (by decide) (fun _ => nofun) (rd_assign rfl) ?_
      refine run_nil ?_
      refine St.then_n ?_
      refine do_ret ?_
      refine do_ret1 Try.results8 (res_tmp rfl) ?_
      intro w hw
      exact ⟨rfl, hw.to_fr (by repeat (first | with_reducible exact Sel.head | apply Sel.tail))⟩
    · refine do_skip ?_
      refine St.then_n ?_
      refine do_seq ?_
      refine do_region ?_
      refine run_spec rfl (by decide) (by kernel_rfl) rfl (by repeat (first | exact Pick.nil | apply Pick.cons (by repeat (first | with_reducible exact Sel.head | apply Sel.tail)))) (spec_fr (fun w => known15_any w)) ?_
      rintro ⟨⟩ -
      try simp only [List.cons_append, List.nil_append]
      refine run_read rfl (by decide) (fun _ => nofun) (rd_assign rfl) ?_
      refine run_nil ?_
      refine St.keep (β' := [(6, _)]) ⟨rfl, trivial⟩ ?_
      refine St.then_n ?_
      refine do_ret ?_
      refine do_ret1 Try.results8 (res_tmp rfl) ?_
      intro w hw
      exact ⟨rfl, hw.to_fr (by repeat (first | with_reducible exact Sel.head | apply Sel.tail))⟩
end Go.Proofs.Ytglcmlicfmmlpaa
