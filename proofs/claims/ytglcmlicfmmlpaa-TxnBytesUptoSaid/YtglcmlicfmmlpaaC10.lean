/-
  Reading bytes: the program's commands, asks, results.
-/
import Derived.Test.YtglcmlicfmmlpaaC9
namespace Go.Proofs.Ytglcmlicfmmlpaa
open Go.RowKit
set_option linter.unusedSimpArgs false
set_option linter.unusedVariables false

theorem rOp_ok {B : List UInt8} {s : RS} (hs : s.at_ ≤ B.length) : (rOp B s).2.at_ ≤ B.length := rI_ok (rI_ok (rB_ok (rI_ok (rB_ok (rB_ok (rI_ok hs))))))
def pCmd (B : List UInt8) : GCmd × RS :=
  let a := rI B ⟨0, 0⟩
  let o := rOp B a.2
  let id := rB B o.2
  let name := rB B id.2
  let n := rI B name.2
  let why := rI B n.2
  let slot := rI B why.2
  let epoch := rI B slot.2
  let at_ := rI B epoch.2
  let last := rT B at_.2
  let data := rB B last.2
  (⟨a.1, o.1, id.1, name.1, n.1, why.1, slot.1, epoch.1, at_.1, last.1, none, 0, data.1⟩, data.2)
/-- Without where its data lie. -/
def GCmd.plain (x : GCmd) : GCmd := { x with A := none, c := 0 }
def noCmd : GCmd := ⟨0, ⟨0, [], [], 0, [], 0, 0⟩, [], [], 0, 0, 0, 0, 0, false, none, 0, []⟩
def parseC (B : List UInt8) : GCmd × Int := if 65536 < B.length then (noCmd, 3) else if rE B (pCmd B).2 ≠ 0 then (noCmd, rE B (pCmd B).2) else ((pCmd B).1, 0)
set_option maxRecDepth 4000 in
set_option maxHeartbeats 1000000 in
theorem shardParse_spec (F : HP) (v : Value) (B : List UInt8) (hF : VwB F v B) (hl : B.length ≤ 140737488355328) :
    Spec Try.prog 86 [v] [] F (fun x : GCmd => x.plain = (parseC B).1) (fun x => .tuple #[.agg x.L.toArray, .int .i64 (parseC B).2]) (fun x => [bytesO x.v x.data]) := by
  intro ω w hh
  refine enter Try.func86 rfl Try.ntmps86 rfl hh ?_
  simp only [List.nil_append, argsB]
  refine St.vw hF .head (fun A c hv _ _ _ => ?_)
  subst hv
  obtain ⟨⟨a, s1⟩, e1⟩ : ∃ q, rI B ⟨0, 0⟩ = q := ⟨_, rfl⟩
  have k1 : s1.at_ ≤ B.length := by have := rI_ok (B := B) (s := ⟨0, 0⟩) (Nat.zero_le _); rw [e1] at this; exact this
  obtain ⟨⟨o, s2⟩, e2⟩ : ∃ q, rOp B s1 = q := ⟨_, rfl⟩
  have k2 : s2.at_ ≤ B.length := by have := rOp_ok k1; rw [e2] at this; exact this
  obtain ⟨⟨id, s3⟩, e3⟩ : ∃ q, rB B s2 = q := ⟨_, rfl⟩
  have k3 : s3.at_ ≤ B.length := by have := rB_ok k2; rw [e3] at this; exact this
  obtain ⟨⟨name, s4⟩, e4⟩ : ∃ q, rB B s3 = q := ⟨_, rfl⟩
  have k4 : s4.at_ ≤ B.length := by have := rB_ok k3; rw [e4] at this; exact this
  obtain ⟨⟨n, s5⟩, e5⟩ : ∃ q, rI B s4 = q := ⟨_, rfl⟩
  have k5 : s5.at_ ≤ B.length := by have := rI_ok k4; rw [e5] at this; exact this
  obtain ⟨⟨why, s6⟩, e6⟩ : ∃ q, rI B s5 = q := ⟨_, rfl⟩
  have k6 : s6.at_ ≤ B.length := by have := rI_ok k5; rw [e6] at this; exact this
  obtain ⟨⟨slot, s7⟩, e7⟩ : ∃ q, rI B s6 = q := ⟨_, rfl⟩
  have k7 : s7.at_ ≤ B.length := by have := rI_ok k6; rw [e7] at this; exact this
  obtain ⟨⟨epoch, s8⟩, e8⟩ : ∃ q, rI B s7 = q := ⟨_, rfl⟩
  have k8 : s8.at_ ≤ B.length := by have := rI_ok k7; rw [e8] at this; exact this
  obtain ⟨⟨at_, s9⟩, e9⟩ : ∃ q, rI B s8 = q := ⟨_, rfl⟩
  have k9 : s9.at_ ≤ B.length := by have := rI_ok k8; rw [e9] at this; exact this
  obtain ⟨⟨last, s10⟩, e10⟩ : ∃ q, rT B s9 = q := ⟨_, rfl⟩
  have k10 : s10.at_ ≤ B.length := by have := rT_ok k9; rw [e10] at this; exact this
  obtain ⟨⟨data, s11⟩, e11⟩ : ∃ q, rB B s10 = q := ⟨_, rfl⟩
  have k11 : s11.at_ ≤ B.length := by have := rB_ok k10; rw [e11] at this; exact this
  have hop : pCmd B = (⟨a, o, id, name, n, why, slot, epoch, at_, last, none, 0, data⟩, s11) := by simp only [pCmd, e1, e2, e3, e4, e5, e6, e7, e8, e9, e10, e11]
  unfold parseC
  rw [hop]
  dsimp only
  refine do_seq ?_
  refine do_region ?_
  refine run_alloc rfl (by decide) zero47 (fun b2 => ?_)
  refine run_read rfl (by decide) (fun _ => nofun) (rd_assign rfl) ?_
  refine run_nil ?_
  refine St.then_n ?_
  refine do_seq ?_
  refine do_seq ?_
  refine do_region ?_
  refine run_read rfl (by decide) (fun _ => nofun) (rd_move rfl) ?_
  refine run_read rfl (by decide) (fun _ => nofun) (rd_len Try.underlying26 rfl) ?_
  refine run_read rfl (by decide) (fun _ => nofun) (rd_gt rfl rfl) ?_
  refine run_nil ?_
  refine St.then_n ?_
  first | refine do_condp rfl (fun h9 => ?_) (fun h9 => ?_) | refine do_cond rfl (fun h9 => ?_) (fun h9 => ?_)
  · refine do_seq ?_
    refine do_region ?_
    refine run_read rfl (by decide) (fun _ => nofun) (rd_buildM (l := []) (vs := [_, _, _, _, _, _, _, _, _, _, _, _, _, _, _, _, _]) zero47 plc47 rfl rfl) ?_
    first | refine run_store_all rfl rfl rfl (by repeat (first | with_reducible exact Sel.head | apply Sel.tail)) row47 rfl rfl rfl ?_ | refine run_store_mid rfl rfl rfl (by repeat (first | with_reducible exact Sel.head | apply Sel.tail)) row47 rfl rfl rfl (by simp only [setL, List.length_cons, List.length_nil, Nat.reduceAdd, List.take_succ_cons, List.take_zero, List.drop_succ_cons, List.drop_zero, List.cons_append, List.nil_append, List.append_nil]; exact rfl) ?_
    refine run_read rfl (by decide) (fun _ => nofun) (rd_assign rfl) ?_
    refine run_nil ?_
    refine St.keep (β' := [(2, _), (3, _)]) ⟨rfl, rfl, trivial⟩ ?_
    refine St.then_n ?_
    refine do_ret ?_
    refine St.then_r ?_
    refine do_ret2 Try.results86 (res_cell_row (vs := [_, _, _, _, _, _, _, _, _, _, _, _, _, _, _, _, _]) rfl row47 rfl (cells_pts (by repeat (first | with_reducible exact Sel.head | apply Sel.tail)) rfl)) (res_tmp rfl) ?_
    intro w hw
    have hlong : 65536 < B.length := by omega
    rw [if_pos hlong]
    exact ⟨noCmd, rfl, rfl, Holds.own_nil (hw.sub (by repeat (first | exact Pick.nil | apply Pick.cons (by repeat (first | with_reducible exact Sel.head | apply Sel.tail)))))⟩
  · refine do_skip ?_
    refine St.then_n ?_
    refine do_seq ?_
    refine do_region ?_
    refine run_read rfl (by decide) (fun _ => nofun) (rd_move rfl) ?_
    refine run_spec rfl (by decide) (by kernel_rfl) rfl (by repeat (first | exact Pick.nil | apply Pick.cons (by repeat (first | with_reducible exact Sel.head | apply Sel.tail)))) (newReader_spec _ _ (by first | with_reducible exact vwb_nil _ | exact Vw.sep hF (by repeat (first | with_reducible exact Sel.head | apply Sel.tail)) | exact Vw.sep hG (by repeat (first | with_reducible exact Sel.head | apply Sel.tail)) | exact Vw.sep vw_bytes (by repeat (first | with_reducible exact Sel.head | apply Sel.tail))) hl) ?_
    rintro r -
    try simp only [List.cons_append, List.nil_append]
    refine run_read rfl (by decide) (fun _ => nofun) (rd_assign rfl) ?_
    refine run_nil ?_
    refine St.keep (β' := [(2, _), (4, _)]) ⟨rfl, rfl, trivial⟩ ?_
    refine St.then_n ?_
    refine do_seq ?_
    refine do_region ?_
    refine run_read rfl (by decide) (fun _ => nofun) (rd_move rfl) ?_
    refine run_spec rfl (by decide) (by kernel_rfl) rfl (by repeat (first | exact Pick.nil | apply Pick.cons (by repeat (first | with_reducible exact Sel.head | apply Sel.tail)))) (rdInt_spec _ (s := ⟨0, 0⟩) (Nat.zero_le _) hl) ?_
    rintro ⟨⟩ -
    rw [e1]
    dsimp only
    try simp only [List.cons_append, List.nil_append]
    refine run_read rfl (by decide) (fun _ => nofun) (rd_move rfl) ?_
    refine run_spec rfl (by decide) (by kernel_rfl) rfl (by repeat (first | exact Pick.nil | apply Pick.cons (by repeat (first | with_reducible exact Sel.head | apply Sel.tail)))) (getOp_spec _ k1 hl) ?_
    rintro ⟨⟩ -
    rw [e2]
    dsimp only
    try simp only [List.cons_append, List.nil_append]
    refine run_read rfl (by decide) (fun _ => nofun) (rd_buildM (l := [(0, (Operand.tmp 14)), (1, (Operand.tmp 16))]) (vs := [_, _, _, _, _, _, _, _, _, _, _, _, _, _, _, _, _]) zero47 plc47 rfl rfl) ?_
    refine run_alloc rfl (by decide) zero47 (fun b5 => ?_)
    first | refine run_store_all rfl rfl rfl (by repeat (first | with_reducible exact Sel.head | apply Sel.tail)) row47 rfl rfl rfl ?_ | refine run_store_mid rfl rfl rfl (by repeat (first | with_reducible exact Sel.head | apply Sel.tail)) row47 rfl rfl rfl (by simp only [setL, List.length_cons, List.length_nil, Nat.reduceAdd, List.take_succ_cons, List.take_zero, List.drop_succ_cons, List.drop_zero, List.cons_append, List.nil_append, List.append_nil]; exact rfl) ?_
    refine run_nil ?_
    refine St.keep (β' := [(2, _), (4, _), (5, _)]) ⟨rfl, rfl, rfl, trivial⟩ ?_
    refine St.then_n ?_
    refine do_seq ?_
    refine do_region ?_
    refine run_read rfl (by decide) (fun _ => nofun) (rd_move rfl) ?_
    refine run_spec rfl (by decide) (by kernel_rfl) rfl (by repeat (first | exact Pick.nil | apply Pick.cons (by repeat (first | with_reducible exact Sel.head | apply Sel.tail)))) (rdText_spec _ k2 hl) ?_
    rintro ⟨⟩ -
    rw [e3]
    dsimp only
    try simp only [List.cons_append, List.nil_append]
    refine run_read rfl (by decide) (fun _ => nofun) (rd_move rfl) ?_
    refine run_spec rfl (by decide) (by kernel_rfl) rfl (by repeat (first | exact Pick.nil | apply Pick.cons (by repeat (first | with_reducible exact Sel.head | apply Sel.tail)))) (rdText_spec _ k3 hl) ?_
    rintro ⟨⟩ -
    rw [e4]
    dsimp only
    try simp only [List.cons_append, List.nil_append]
    refine run_read rfl (by decide) (fun _ => nofun) (rd_move rfl) ?_
    refine run_spec rfl (by decide) (by kernel_rfl) rfl (by repeat (first | exact Pick.nil | apply Pick.cons (by repeat (first | with_reducible exact Sel.head | apply Sel.tail)))) (rdInt_spec _ k4 hl) ?_
    rintro ⟨⟩ -
    rw [e5]
    dsimp only
    try simp only [List.cons_append, List.nil_append]
    first | refine run_read rfl (by decide) (fun _ => nofun) (rd_fieldAddr0 rfl fld47_2) ?_ | refine run_read rfl (by decide) (fun _ => nofun) (rd_fieldAddr rfl fld47_2) ?_
    refine run_store rfl rfl rfl (by repeat (first | with_reducible exact Sel.head | apply Sel.tail)) row9 rfl rfl (by simp only [List.set_cons_succ, List.set_cons_zero]; exact rfl) ?_
    first | refine run_read rfl (by decide) (fun _ => nofun) (rd_fieldAddr0 rfl fld47_3) ?_ | refine run_read rfl (by decide) (fun _ => nofun) (rd_fieldAddr rfl fld47_3) ?_
    refine run_store rfl rfl rfl (by repeat (first | with_reducible exact Sel.head | apply Sel.tail)) row9 rfl rfl (by simp only [List.set_cons_succ, List.set_cons_zero]; exact rfl) ?_
    first | refine run_read rfl (by decide) (fun _ => nofun) (rd_fieldAddr0 rfl fld47_4) ?_ | refine run_read rfl (by decide) (fun _ => nofun) (rd_fieldAddr rfl fld47_4) ?_
    refine run_store rfl rfl rfl (by repeat (first | with_reducible exact Sel.head | apply Sel.tail)) row2 rfl rfl (by simp only [List.set_cons_succ, List.set_cons_zero]; exact rfl) ?_
    refine run_nil ?_
    refine St.keep (β' := [(2, _), (4, _), (5, _)]) ⟨rfl, rfl, rfl, trivial⟩ ?_
    refine St.then_n ?_
    refine do_seq ?_
    refine do_region ?_
    refine run_read rfl (by decide) (fun _ => nofun) (rd_move rfl) ?_
    refine run_spec rfl (by decide) (by kernel_rfl) rfl (by repeat (first | exact Pick.nil | apply Pick.cons (by repeat (first | with_reducible exact Sel.head | apply Sel.tail)))) (rdInt_spec _ k5 hl) ?_
    rintro ⟨⟩ -
    rw [e6]
    dsimp only
    try simp only [List.cons_append, List.nil_append]
    refine run_read rfl (by decide) (fun _ => nofun) (rd_move rfl) ?_
    refine run_spec rfl (by decide) (by kernel_rfl) rfl (by repeat (first | exact Pick.nil | apply Pick.cons (by repeat (first | with_reducible exact Sel.head | apply Sel.tail)))) (rdInt_spec _ k6 hl) ?_
    rintro ⟨⟩ -
    rw [e7]
    dsimp only
    try simp only [List.cons_append, List.nil_append]
    refine run_read rfl (by decide) (fun _ => nofun) (rd_move rfl) ?_
    refine run_spec rfl (by decide) (by kernel_rfl) rfl (by repeat (first | exact Pick.nil | apply Pick.cons (by repeat (first | with_reducible exact Sel.head | apply Sel.tail)))) (rdInt_spec _ k7 hl) ?_
    rintro ⟨⟩ -
    rw [e8]
    dsimp only
    try simp only [List.cons_append, List.nil_append]
    first | refine run_read rfl (by decide) (fun _ => nofun) (rd_fieldAddr0 rfl fld47_5) ?_ | refine run_read rfl (by decide) (fun _ => nofun) (rd_fieldAddr rfl fld47_5) ?_
    refine run_store rfl rfl rfl (by repeat (first | with_reducible exact Sel.head | apply Sel.tail)) row25 rfl rfl (by simp only [List.set_cons_succ, List.set_cons_zero]; exact rfl) ?_
    first | refine run_read rfl (by decide) (fun _ => nofun) (rd_fieldAddr0 rfl fld47_6) ?_ | refine run_read rfl (by decide) (fun _ => nofun) (rd_fieldAddr rfl fld47_6) ?_
    refine run_store rfl rfl rfl (by repeat (first | with_reducible exact Sel.head | apply Sel.tail)) row3 rfl rfl (by simp only [List.set_cons_succ, List.set_cons_zero]; exact rfl) ?_
    first | refine run_read rfl (by decide) (fun _ => nofun) (rd_fieldAddr0 rfl fld47_7) ?_ | refine run_read rfl (by decide) (fun _ => nofun) (rd_fieldAddr rfl fld47_7) ?_
    refine run_store rfl rfl rfl (by repeat (first | with_reducible exact Sel.head | apply Sel.tail)) row2 rfl rfl (by simp only [List.set_cons_succ, List.set_cons_zero]; exact rfl) ?_
    refine run_nil ?_
    refine St.keep (β' := [(2, _), (4, _), (5, _)]) ⟨rfl, rfl, rfl, trivial⟩ ?_
    refine St.then_n ?_
    refine do_seq ?_
    refine do_region ?_
    refine run_read rfl (by decide) (fun _ => nofun) (rd_move rfl) ?_
    refine run_spec rfl (by decide) (by kernel_rfl) rfl (by repeat (first | exact Pick.nil | apply Pick.cons (by repeat (first | with_reducible exact Sel.head | apply Sel.tail)))) (rdInt_spec _ k8 hl) ?_
    rintro ⟨⟩ -
    rw [e9]
    dsimp only
    try simp only [List.cons_append, List.nil_append]
    refine run_read rfl (by decide) (fun _ => nofun) (rd_move rfl) ?_
    refine run_spec rfl (by decide) (by kernel_rfl) rfl (by repeat (first | exact Pick.nil | apply Pick.cons (by repeat (first | with_reducible exact Sel.head | apply Sel.tail)))) (rdBool_spec _ k9 hl) ?_
    rintro ⟨⟩ -
    rw [e10]
    dsimp only
    try simp only [List.cons_append, List.nil_append]
    refine run_read rfl (by decide) (fun _ => nofun) (rd_move rfl) ?_
    refine run_spec rfl (by decide) (by kernel_rfl) rfl (by repeat (first | exact Pick.nil | apply Pick.cons (by repeat (first | with_reducible exact Sel.head | apply Sel.tail)))) (rdBytes_spec _ k10 hl) ?_
    rintro v1 -
    rw [e11]
    dsimp only
    refine St.vw vw_bytes .head (fun A1 c1 hv _ _ _ => ?_)
    subst hv
    try simp only [List.cons_append, List.nil_append]
    first | refine run_read rfl (by decide) (fun _ => nofun) (rd_fieldAddr0 rfl fld47_8) ?_ | refine run_read rfl (by decide) (fun _ => nofun) (rd_fieldAddr rfl fld47_8) ?_
    refine run_store rfl rfl rfl (by repeat (first | with_reducible exact Sel.head | apply Sel.tail)) row3 rfl rfl (by simp only [List.set_cons_succ, List.set_cons_zero]; exact rfl) ?_
    first | refine run_read rfl (by decide) (fun _ => nofun) (rd_fieldAddr0 rfl fld47_9) ?_ | refine run_read rfl (by decide) (fun _ => nofun) (rd_fieldAddr rfl fld47_9) ?_
    refine run_store rfl rfl rfl (by repeat (first | with_reducible exact Sel.head | apply Sel.tail)) row4 rfl rfl (by simp only [List.set_cons_succ, List.set_cons_zero]; exact rfl) ?_
    first | refine run_read rfl (by decide) (fun _ => nofun) (rd_fieldAddr0 rfl fld47_10) ?_ | refine run_read rfl (by decide) (fun _ => nofun) (rd_fieldAddr rfl fld47_10) ?_
    refine run_store rfl rfl rfl (by repeat (first | with_reducible exact Sel.head | apply Sel.tail)) row26 rfl rfl (by simp only [List.set_cons_succ, List.set_cons_zero]; exact rfl) ?_
    refine run_nil ?_
    refine St.keep (β' := [(2, _), (4, _), (5, _)]) ⟨rfl, rfl, rfl, trivial⟩ ?_
    refine St.then_n ?_
    refine do_seq ?_
    refine do_seq ?_
    refine do_region ?_
    refine run_read rfl (by decide) (fun _ => nofun) (rd_move rfl) ?_
    refine run_spec rfl (by decide) (by kernel_rfl) rfl (by repeat (first | exact Pick.nil | apply Pick.cons (by repeat (first | with_reducible exact Sel.head | apply Sel.tail)))) (rdEnd_spec _ k11 hl) ?_
    rintro ⟨⟩ -
    try simp only [List.cons_append, List.nil_append]
    refine run_read rfl (by decide) (fun _ => nofun) (rd_assign rfl) ?_
    refine run_nil ?_
    refine St.then_n ?_
    refine do_seq ?_
    refine do_region ?_
    refine run_read rfl (by decide) (fun _ => nofun) (rd_move rfl) ?_
    refine run_read rfl (by decide) (fun _ => nofun) (rd_ne rfl rfl) ?_
    refine run_nil ?_
    refine St.keep (β' := [(2, _), (5, _), (6, _), (48, _)]) ⟨rfl, rfl, rfl, rfl, trivial⟩ ?_
    refine St.then_n ?_
    first | refine do_condp rfl (fun h48 => ?_) (fun h48 => ?_) | refine do_cond rfl (fun h48 => ?_) (fun h48 => ?_)
    · refine do_seq ?_
      refine do_region ?_
      refine run_read rfl (by decide) (fun _ => nofun) (rd_buildM (l := []) (vs := [_, _, _, _, _, _, _, _, _, _, _, _, _, _, _, _, _]) zero47 plc47 rfl rfl) ?_
      refine run_read rfl (by decide) (fun _ => nofun) (rd_move rfl) ?_
      first | refine run_store_all rfl rfl rfl (by repeat (first | with_reducible exact Sel.head | apply Sel.tail)) row47 rfl rfl rfl ?_ | refine run_store_mid rfl rfl rfl (by repeat (first | with_reducible exact Sel.head | apply Sel.tail)) row47 rfl rfl rfl (by simp only [setL, List.length_cons, List.length_nil, Nat.reduceAdd, List.take_succ_cons, List.take_zero, List.drop_succ_cons, List.drop_zero, List.cons_append, List.nil_append, List.append_nil]; exact rfl) ?_
      refine run_read rfl (by decide) (fun _ => nofun) (rd_assign rfl) ?_
      refine run_nil ?_
      refine St.keep (β' := [(2, _), (3, _)]) ⟨rfl, rfl, trivial⟩ ?_
      refine St.then_n ?_
      refine do_ret ?_
      refine St.then_r ?_
      refine do_ret2 Try.results86 (res_cell_row (vs := [_, _, _, _, _, _, _, _, _, _, _, _, _, _, _, _, _]) rfl row47 rfl (cells_pts (by repeat (first | with_reducible exact Sel.head | apply Sel.tail)) rfl)) (res_tmp rfl) ?_
      intro w hw
      have hlong : ¬ 65536 < B.length := by omega
      rw [if_neg hlong, if_pos h48]
      exact ⟨noCmd, rfl, rfl, Holds.own_nil (hw.sub (by repeat (first | exact Pick.nil | apply Pick.cons (by repeat (first | with_reducible exact Sel.head | apply Sel.tail)))))⟩
    · refine do_skip ?_
      refine St.then_n ?_
      refine do_seq ?_
      refine do_region ?_
      refine run_read rfl (by decide) (fun _ => nofun) (rd_load_row (vs := [_, _, _, _, _, _, _, _, _, _, _, _, _, _, _, _, _]) rfl row47 rfl (cells_pts (by repeat (first | with_reducible exact Sel.head | apply Sel.tail)) rfl)) ?_
      first | refine run_store_all rfl rfl rfl (by repeat (first | with_reducible exact Sel.head | apply Sel.tail)) row47 rfl rfl rfl ?_ | refine run_store_mid rfl rfl rfl (by repeat (first | with_reducible exact Sel.head | apply Sel.tail)) row47 rfl rfl rfl (by simp only [setL, List.length_cons, List.length_nil, Nat.reduceAdd, List.take_succ_cons, List.take_zero, List.drop_succ_cons, List.drop_zero, List.cons_append, List.nil_append, List.append_nil]; exact rfl) ?_
      refine run_read rfl (by decide) (fun _ => nofun) (rd_assign rfl) ?_
      refine run_nil ?_
      refine St.keep (β' := [(2, _), (3, _)]) ⟨rfl, rfl, trivial⟩ ?_
      refine St.then_n ?_
      refine do_ret ?_
      refine do_ret2 Try.results86 (res_cell_row (vs := [_, _, _, _, _, _, _, _, _, _, _, _, _, _, _, _, _]) rfl row47 rfl (cells_pts (by repeat (first | with_reducible exact Sel.head | apply Sel.tail)) rfl)) (res_tmp rfl) ?_
      intro w hw
      have hlong : ¬ 65536 < B.length := by omega
      rw [if_neg hlong, if_neg h48]
      exact ⟨⟨a, o, id, name, n, why, slot, epoch, at_, last, A1, c1, data⟩, rfl, rfl, hw.sub (by repeat (first | exact Pick.nil | apply Pick.cons (by repeat (first | with_reducible exact Sel.head | apply Sel.tail))))⟩
theorem rB_len (B : List UInt8) (s : RS) : (rB B s).1.length ≤ B.length := by
  by_cases hy : (rN 65536 B s).2.why = 0
  · rw [rB_good hy]; simp only [List.length_take, List.length_drop]; omega
  · rw [rB_err hy]; simp
def GAsk.plain (x : GAsk) : GAsk := ⟨x.group, x.cmd.plain⟩
def noAsk : GAsk := ⟨0, noCmd⟩
def pAsk (B : List UInt8) : Int × List UInt8 × RS :=
  let a := rI B ⟨0, 0⟩
  let b := rB B a.2
  (a.1, b.1, b.2)
def parseA (B : List UInt8) : GAsk × Int :=
  if 65536 < B.length then (noAsk, 3) else
    if rE B (pAsk B).2.2 ≠ 0 then (noAsk, rE B (pAsk B).2.2) else
      if (parseC (pAsk B).2.1).2 ≠ 0 then (noAsk, (parseC (pAsk B).2.1).2) else
        if (pAsk B).1 < 0 ∨ 3 < (pAsk B).1 then (noAsk, 1) else (⟨(pAsk B).1, (parseC (pAsk B).2.1).1⟩, 0)
set_option maxRecDepth 4000 in
set_option maxHeartbeats 1000000 in
theorem txnParse_spec (F : HP) (v : Value) (B : List UInt8) (hF : VwB F v B) (hl : B.length ≤ 140737488355328) :
    Spec Try.prog 43 [v] [] F (fun x : GAsk => x.plain = (parseA B).1) (fun x => .tuple #[.agg x.L.toArray, .int .i64 (parseA B).2]) (fun x => [bytesO x.cmd.v x.cmd.data]) := by
  intro ω w hh
  refine enter Try.func43 rfl Try.ntmps43 rfl hh ?_
  simp only [List.nil_append, argsB]
  refine St.vw hF .head (fun A c hv _ _ _ => ?_)
  subst hv
  obtain ⟨⟨a, s1⟩, e1⟩ : ∃ q, rI B ⟨0, 0⟩ = q := ⟨_, rfl⟩
  have k1 : s1.at_ ≤ B.length := by have := rI_ok (B := B) (s := ⟨0, 0⟩) (Nat.zero_le _); rw [e1] at this; exact this
  obtain ⟨⟨b, s2⟩, e2⟩ : ∃ q, rB B s1 = q := ⟨_, rfl⟩
  have k2 : s2.at_ ≤ B.length := by have := rB_ok k1; rw [e2] at this; exact this
  have kb : b.length ≤ B.length := by have := rB_len B s1; rw [e2] at this; exact this
  have hop : pAsk B = (a, b, s2) := by simp only [pAsk, e1, e2]
  obtain ⟨⟨pc, pe⟩, e3⟩ : ∃ q, parseC b = q := ⟨_, rfl⟩
  unfold parseA
  rw [hop]
  dsimp only
  rw [e3]
  dsimp only
  refine do_seq ?_
  refine do_region ?_
  refine run_alloc rfl (by decide) zero49 (fun b2 => ?_)
  refine run_read rfl (by decide) (fun _ => nofun) (rd_assign rfl) ?_
  refine run_nil ?_
  refine St.then_n ?_
  refine do_seq ?_
  refine do_seq ?_
  refine do_region ?_
  refine run_read rfl (by decide) (fun _ => nofun) (rd_move rfl) ?_
  refine run_read rfl (by decide) (fun _ => nofun) (rd_len Try.underlying26 rfl) ?_
  refine run_read rfl (by decide) (fun _ => nofun) (rd_gt rfl rfl) ?_
  refine run_nil ?_
  refine St.then_n ?_
  first | refine do_condp rfl (fun h12 => ?_) (fun h12 => ?_) | refine do_cond rfl (fun h12 => ?_) (fun h12 => ?_)
  · refine do_seq ?_
    refine do_region ?_
    refine run_read rfl (by decide) (fun _ => nofun) (rd_buildM (l := []) (vs := [_, _, _, _, _, _, _, _, _, _, _, _, _, _, _, _, _, _]) zero49 plc49 rfl rfl) ?_
    first | refine run_store_all rfl rfl rfl (by repeat (first | with_reducible exact Sel.head | apply Sel.tail)) row49 rfl rfl rfl ?_ | refine run_store_mid rfl rfl rfl (by repeat (first | with_reducible exact Sel.head | apply Sel.tail)) row49 rfl rfl rfl (by simp only [setL, List.length_cons, List.length_nil, Nat.reduceAdd, List.take_succ_cons, List.take_zero, List.drop_succ_cons, List.drop_zero, List.cons_append, List.nil_append, List.append_nil]; exact rfl) ?_
    refine run_read rfl (by decide) (fun _ => nofun) (rd_assign rfl) ?_
    refine run_nil ?_
    refine St.keep (β' := [(2, _), (3, _)]) ⟨rfl, rfl, trivial⟩ ?_
    refine St.then_n ?_
    refine do_ret ?_
    refine St.then_r ?_
    refine do_ret2 Try.results43 (res_cell_row (vs := [_, _, _, _, _, _, _, _, _, _, _, _, _, _, _, _, _, _]) rfl row49 rfl (cells_pts (by repeat (first | with_reducible exact Sel.head | apply Sel.tail)) rfl)) (res_tmp rfl) ?_
    intro w hw
    have hlong : 65536 < B.length := by omega
    rw [if_pos hlong]
    exact ⟨noAsk, rfl, rfl, Holds.own_nil (hw.sub (by repeat (first | exact Pick.nil | apply Pick.cons (by repeat (first | with_reducible exact Sel.head | apply Sel.tail)))))⟩
  · refine do_skip ?_
    refine St.then_n ?_
    refine do_seq ?_
    refine do_region ?_
    refine run_read rfl (by decide) (fun _ => nofun) (rd_move rfl) ?_
    refine run_spec rfl (by decide) (by kernel_rfl) rfl (by repeat (first | exact Pick.nil | apply Pick.cons (by repeat (first | with_reducible exact Sel.head | apply Sel.tail)))) (newReader_spec _ _ (by first | with_reducible exact vwb_nil _ | exact Vw.sep hF (by repeat (first | with_reducible exact Sel.head | apply Sel.tail)) | exact Vw.sep hG (by repeat (first | with_reducible exact Sel.head | apply Sel.tail)) | exact Vw.sep vw_bytes (by repeat (first | with_reducible exact Sel.head | apply Sel.tail))) hl) ?_
    rintro r -
    try simp only [List.cons_append, List.nil_append]
    refine run_read rfl (by decide) (fun _ => nofun) (rd_assign rfl) ?_
    refine run_nil ?_
    refine St.keep (β' := [(2, _), (4, _)]) ⟨rfl, rfl, trivial⟩ ?_
    refine St.then_n ?_
    refine do_seq ?_
    refine do_region ?_
    refine run_read rfl (by decide) (fun _ => nofun) (rd_move rfl) ?_
    refine run_spec rfl (by decide) (by kernel_rfl) rfl (by repeat (first | exact Pick.nil | apply Pick.cons (by repeat (first | with_reducible exact Sel.head | apply Sel.tail)))) (rdInt_spec _ (s := ⟨0, 0⟩) (Nat.zero_le _) hl) ?_
    rintro ⟨⟩ -
    rw [e1]
    dsimp only
    try simp only [List.cons_append, List.nil_append]
    refine run_read rfl (by decide) (fun _ => nofun) (rd_move rfl) ?_
    refine run_spec rfl (by decide) (by kernel_rfl) rfl (by repeat (first | exact Pick.nil | apply Pick.cons (by repeat (first | with_reducible exact Sel.head | apply Sel.tail)))) (rdBytes_spec _ k1 hl) ?_
    rintro v1 -
    rw [e2]
    dsimp only
    refine St.vw vw_bytes .head (fun A1 c1 hv _ _ _ => ?_)
    subst hv
    try simp only [List.cons_append, List.nil_append]
    refine run_read rfl (by decide) (fun _ => nofun) (rd_assign rfl) ?_
    refine run_read rfl (by decide) (fun _ => nofun) (rd_assign rfl) ?_
    refine run_nil ?_
    refine St.keep (β' := [(2, _), (4, _), (5, _), (6, _)]) ⟨rfl, rfl, rfl, rfl, trivial⟩ ?_
    refine St.then_n ?_
    refine do_seq ?_
    refine do_seq ?_
    refine do_region ?_
    refine run_read rfl (by decide) (fun _ => nofun) (rd_move rfl) ?_
    refine run_spec rfl (by decide) (by kernel_rfl) rfl (by repeat (first | exact Pick.nil | apply Pick.cons (by repeat (first | with_reducible exact Sel.head | apply Sel.tail)))) (rdEnd_spec _ k2 hl) ?_
    rintro ⟨⟩ -
    try simp only [List.cons_append, List.nil_append]
    refine run_read rfl (by decide) (fun _ => nofun) (rd_assign rfl) ?_
    refine run_nil ?_
    refine St.then_n ?_
    refine do_seq ?_
    refine do_region ?_
    refine run_read rfl (by decide) (fun _ => nofun) (rd_move rfl) ?_
    refine run_read rfl (by decide) (fun _ => nofun) (rd_ne rfl rfl) ?_
    refine run_nil ?_
    refine St.keep (β' := [(2, _), (5, _), (6, _), (7, _), (23, _)]) ⟨rfl, rfl, rfl, rfl, rfl, trivial⟩ ?_
    refine St.then_n ?_
    first | refine do_condp rfl (fun h23 => ?_) (fun h23 => ?_) | refine do_cond rfl (fun h23 => ?_) (fun h23 => ?_)
    · refine do_seq ?_
      refine do_region ?_
      refine run_read rfl (by decide) (fun _ => nofun) (rd_buildM (l := []) (vs := [_, _, _, _, _, _, _, _, _, _, _, _, _, _, _, _, _, _]) zero49 plc49 rfl rfl) ?_
      refine run_read rfl (by decide) (fun _ => nofun) (rd_move rfl) ?_
      first | refine run_store_all rfl rfl rfl (by repeat (first | with_reducible exact Sel.head | apply Sel.tail)) row49 rfl rfl rfl ?_ | refine run_store_mid rfl rfl rfl (by repeat (first | with_reducible exact Sel.head | apply Sel.tail)) row49 rfl rfl rfl (by simp only [setL, List.length_cons, List.length_nil, Nat.reduceAdd, List.take_succ_cons, List.take_zero, List.drop_succ_cons, List.drop_zero, List.cons_append, List.nil_append, List.append_nil]; exact rfl) ?_
      refine run_read rfl (by decide) (fun _ => nofun) (rd_assign rfl) ?_
      refine run_nil ?_
      refine St.keep (β' := [(2, _), (3, _)]) ⟨rfl, rfl, trivial⟩ ?_
      refine St.then_n ?_
      refine do_ret ?_
      refine St.then_r ?_
      refine do_ret2 Try.results43 (res_cell_row (vs := [_, _, _, _, _, _, _, _, _, _, _, _, _, _, _, _, _, _]) rfl row49 rfl (cells_pts (by repeat (first | with_reducible exact Sel.head | apply Sel.tail)) rfl)) (res_tmp rfl) ?_
      intro w hw
      have hlong : ¬ 65536 < B.length := by omega
      rw [if_neg hlong, if_pos h23]
      exact ⟨noAsk, rfl, rfl, Holds.own_nil (hw.sub (by repeat (first | exact Pick.nil | apply Pick.cons (by repeat (first | with_reducible exact Sel.head | apply Sel.tail)))))⟩
    · refine do_skip ?_
      refine St.then_n ?_
      refine do_seq ?_
      refine do_region ?_
      refine run_read rfl (by decide) (fun _ => nofun) (rd_move rfl) ?_
      refine run_spec rfl (by decide) (by kernel_rfl) rfl (by repeat (first | exact Pick.nil | apply Pick.cons (by repeat (first | with_reducible exact Sel.head | apply Sel.tail)))) (shardParse_spec _ _ b (Vw.sep vw_bytes (by repeat (first | with_reducible exact Sel.head | apply Sel.tail))) (by omega)) ?_
      rintro x hx
      rw [e3] at hx ⊢
      dsimp only at hx ⊢
      obtain ⟨kind, op, id, name, n, why, slot, epoch, at_, last, A2, c2, data⟩ := x
      simp only [GCmd.L, GCmd.v]
      try simp only [List.cons_append, List.nil_append]
      refine run_read rfl (by decide) (fun _ => nofun) (rd_move rfl) ?_
      refine run_read rfl (by decide) (fun _ => nofun) (rd_extract rfl rfl) ?_
      refine run_read rfl (by decide) (fun _ => nofun) (rd_extract rfl rfl) ?_
      refine run_alloc rfl (by decide) zero47 (fun b8 => ?_)
      first | refine run_store_all rfl rfl rfl (by repeat (first | with_reducible exact Sel.head | apply Sel.tail)) row47 rfl rfl rfl ?_ | refine run_store_mid rfl rfl rfl (by repeat (first | with_reducible exact Sel.head | apply Sel.tail)) row47 rfl rfl rfl (by simp only [setL, List.length_cons, List.length_nil, Nat.reduceAdd, List.take_succ_cons, List.take_zero, List.drop_succ_cons, List.drop_zero, List.cons_append, List.nil_append, List.append_nil]; exact rfl) ?_
      refine run_read rfl (by decide) (fun _ => nofun) (rd_assign rfl) ?_
      refine run_nil ?_
      refine St.keep (β' := [(2, _), (5, _), (8, _), (9, _)]) ⟨rfl, rfl, rfl, rfl, trivial⟩ ?_
      refine St.then_n ?_
      refine do_seq ?_
      refine do_block ?_
      refine do_seq ?_
      refine do_region ?_
      refine run_read rfl (by decide) (fun _ => nofun) (rd_move rfl) ?_
      refine run_read rfl (by decide) (fun _ => nofun) (rd_ne rfl rfl) ?_
      refine run_read rfl (by decide) (fun _ => nofun) (rd_assign rfl) ?_
      refine run_nil ?_
      refine St.then_n ?_
      first | refine do_condp rfl (fun h31 => ?_) (fun h31 => ?_) | refine do_cond rfl (fun h31 => ?_) (fun h31 => ?_)
      · refine do_seq ?_
        refine do_region ?_
        refine run_read rfl (by decide) (fun _ => nofun) (rd_buildM (l := []) (vs := [_, _, _, _, _, _, _, _, _, _, _, _, _, _, _, _, _, _]) zero49 plc49 rfl rfl) ?_
        refine run_read rfl (by decide) (fun _ => nofun) (rd_move rfl) ?_
        first | refine run_store_all rfl rfl rfl (by repeat (first | with_reducible exact Sel.head | apply Sel.tail)) row49 rfl rfl rfl ?_ | refine run_store_mid rfl rfl rfl (by repeat (first | with_reducible exact Sel.head | apply Sel.tail)) row49 rfl rfl rfl (by simp only [setL, List.length_cons, List.length_nil, Nat.reduceAdd, List.take_succ_cons, List.take_zero, List.drop_succ_cons, List.drop_zero, List.cons_append, List.nil_append, List.append_nil]; exact rfl) ?_
        refine run_read rfl (by decide) (fun _ => nofun) (rd_assign rfl) ?_
        refine run_nil ?_
        refine St.keep (β' := [(2, _), (3, _)]) ⟨rfl, rfl, trivial⟩ ?_
        refine St.then_n ?_
        refine do_ret ?_
        refine St.blk_r ?_
        refine St.then_r ?_
        refine do_ret2 Try.results43 (res_cell_row (vs := [_, _, _, _, _, _, _, _, _, _, _, _, _, _, _, _, _, _]) rfl row49 rfl (cells_pts (by repeat (first | with_reducible exact Sel.head | apply Sel.tail)) rfl)) (res_tmp rfl) ?_
        intro w hw
        have hlong : ¬ 65536 < B.length := by omega
        rw [if_neg hlong, if_neg h23, if_pos h31]
        exact ⟨noAsk, rfl, rfl, Holds.own_nil (hw.sub (by repeat (first | exact Pick.nil | apply Pick.cons (by repeat (first | with_reducible exact Sel.head | apply Sel.tail)))))⟩
      · refine do_seq ?_
        refine St.sel (P := pts b2 49 noAsk.L) (by repeat (first | exact Sel.head | apply Sel.tail)) ?_
        refine do_cut (fun z : Bool => z = decide (a < 0 ∨ 3 < a)) (fun z => [(2, .pointer (some ⟨b2, 0, none⟩)), (5, .int .i64 a), (8, .pointer (some ⟨b8, 0, none⟩)), (36, .bool z)]) (fun _ => [pts b8 47 (GCmd.L ⟨kind, op, id, name, n, why, slot, epoch, at_, last, A2, c2, data⟩), pts b2 49 noAsk.L, bytesO (.slice A2 data.length c2) data, F]) (fun K hK => ?_) ?_
        · by_cases hA : a < 0
          · refine do_region ?_
            refine run_read rfl (by decide) (fun _ => nofun) (rd_move rfl) ?_
            first | refine run_read rfl (by decide) (fun _ => nofun) ((rd_lt rfl rfl).eq (show _ = Value.bool true by simp; omega)) ?_ | refine run_read rfl (by decide) (fun _ => nofun) ((rd_lt rfl rfl).eq (show _ = Value.bool false by simp; omega)) ?_
            refine run_read rfl (by decide) (fun _ => nofun) (rd_move rfl) ?_
            first | (refine run_skip rfl rfl ?_) | (refine run_read rfl (by decide) (fun _ => nofun) (rd_move rfl) ?_)
            first | (refine run_skip rfl rfl ?_) | (refine run_read rfl (by decide) (fun _ => nofun) (rd_gt rfl rfl) ?_)
            first | refine run_read rfl (by decide) (fun _ => nofun) (rd_pick_t rfl rfl) ?_ | refine run_read rfl (by decide) (fun _ => nofun) (rd_pick_f rfl rfl) ?_
            refine run_read rfl (by decide) (fun _ => nofun) (rd_assign rfl) ?_
            refine run_nil ?_
            refine St.keep (β' := [(2, _), (5, _), (8, _), (36, _)]) ⟨rfl, rfl, rfl, rfl, trivial⟩ ?_
            refine St.then_n ?_
            exact (St.sub (by repeat (first | exact Pick.nil | apply Pick.cons (by repeat (first | with_reducible exact Sel.head | apply Sel.tail)))) (St.keep (β' := [(2, _), (5, _), (8, _), (36, _)]) ⟨rfl, rfl, rfl, rfl, trivial⟩ (hK _ (by first | exact (decide_eq_true (by omega)).symm | exact decide_eq_decide.2 (by omega)))))
          · refine do_region ?_
            refine run_read rfl (by decide) (fun _ => nofun) (rd_move rfl) ?_
            first | refine run_read rfl (by decide) (fun _ => nofun) ((rd_lt rfl rfl).eq (show _ = Value.bool true by simp; omega)) ?_ | refine run_read rfl (by decide) (fun _ => nofun) ((rd_lt rfl rfl).eq (show _ = Value.bool false by simp; omega)) ?_
            refine run_read rfl (by decide) (fun _ => nofun) (rd_move rfl) ?_
            first | (refine run_skip rfl rfl ?_) | (refine run_read rfl (by decide) (fun _ => nofun) (rd_move rfl) ?_)
            first | (refine run_skip rfl rfl ?_) | (refine run_read rfl (by decide) (fun _ => nofun) (rd_gt rfl rfl) ?_)
            first | refine run_read rfl (by decide) (fun _ => nofun) (rd_pick_t rfl rfl) ?_ | refine run_read rfl (by decide) (fun _ => nofun) (rd_pick_f rfl rfl) ?_
            refine run_read rfl (by decide) (fun _ => nofun) (rd_assign rfl) ?_
            refine run_nil ?_
            refine St.keep (β' := [(2, _), (5, _), (8, _), (36, _)]) ⟨rfl, rfl, rfl, rfl, trivial⟩ ?_
            refine St.then_n ?_
            exact (St.sub (by repeat (first | exact Pick.nil | apply Pick.cons (by repeat (first | with_reducible exact Sel.head | apply Sel.tail)))) (St.keep (β' := [(2, _), (5, _), (8, _), (36, _)]) ⟨rfl, rfl, rfl, rfl, trivial⟩ (hK _ (by first | exact (decide_eq_true (by omega)).symm | exact decide_eq_decide.2 (by omega)))))
        rintro z hz
        first | refine do_condp rfl (fun h36 => ?_) (fun h36 => ?_) | refine do_cond rfl (fun h36 => ?_) (fun h36 => ?_)
        · refine do_seq ?_
          refine do_region ?_
          refine run_read rfl (by decide) (fun _ => nofun) (rd_buildM (l := []) (vs := [_, _, _, _, _, _, _, _, _, _, _, _, _, _, _, _, _, _]) zero49 plc49 rfl rfl) ?_
          first | refine run_store_all rfl rfl rfl (by repeat (first | with_reducible exact Sel.head | apply Sel.tail)) row49 rfl rfl rfl ?_ | refine run_store_mid rfl rfl rfl (by repeat (first | with_reducible exact Sel.head | apply Sel.tail)) row49 rfl rfl rfl (by simp only [setL, List.length_cons, List.length_nil, Nat.reduceAdd, List.take_succ_cons, List.take_zero, List.drop_succ_cons, List.drop_zero, List.cons_append, List.nil_append, List.append_nil]; exact rfl) ?_
          refine run_read rfl (by decide) (fun _ => nofun) (rd_assign rfl) ?_
          refine run_nil ?_
          refine St.keep (β' := [(2, _), (3, _)]) ⟨rfl, rfl, trivial⟩ ?_
          refine St.then_n ?_
          refine do_ret ?_
          refine St.blk_r ?_
          refine St.then_r ?_
          refine do_ret2 Try.results43 (res_cell_row (vs := [_, _, _, _, _, _, _, _, _, _, _, _, _, _, _, _, _, _]) rfl row49 rfl (cells_pts (by repeat (first | with_reducible exact Sel.head | apply Sel.tail)) rfl)) (res_tmp rfl) ?_
          intro w hw
          have hlong : ¬ 65536 < B.length := by omega
          rw [if_neg hlong, if_neg h23, if_neg h31, if_pos (of_decide_eq_true (hz.symm.trans h36))]
          exact ⟨noAsk, rfl, rfl, Holds.own_nil (hw.sub (by repeat (first | exact Pick.nil | apply Pick.cons (by repeat (first | with_reducible exact Sel.head | apply Sel.tail)))))⟩
        · refine do_skip ?_
          refine St.blk_n ?_
          refine St.then_n ?_
          refine do_seq ?_
          refine do_region ?_
          refine run_read rfl (by decide) (fun _ => nofun) (rd_move rfl) ?_
          refine run_read rfl (by decide) (fun _ => nofun) (rd_load_row (vs := [_, _, _, _, _, _, _, _, _, _, _, _, _, _, _, _, _]) rfl row47 rfl (cells_pts (by repeat (first | with_reducible exact Sel.head | apply Sel.tail)) rfl)) ?_
          refine run_read rfl (by decide) (fun _ => nofun) (rd_buildM (l := [(0, (Operand.tmp 44)), (1, (Operand.tmp 45))]) (vs := [_, _, _, _, _, _, _, _, _, _, _, _, _, _, _, _, _, _]) zero49 plc49 rfl rfl) ?_
          first | refine run_store_all rfl rfl rfl (by repeat (first | with_reducible exact Sel.head | apply Sel.tail)) row49 rfl rfl rfl ?_ | refine run_store_mid rfl rfl rfl (by repeat (first | with_reducible exact Sel.head | apply Sel.tail)) row49 rfl rfl rfl (by simp only [setL, List.length_cons, List.length_nil, Nat.reduceAdd, List.take_succ_cons, List.take_zero, List.drop_succ_cons, List.drop_zero, List.cons_append, List.nil_append, List.append_nil]; exact rfl) ?_
          refine run_read rfl (by decide) (fun _ => nofun) (rd_assign rfl) ?_
          refine run_nil ?_
          refine St.keep (β' := [(2, _), (3, _)]) ⟨rfl, rfl, trivial⟩ ?_
          refine St.then_n ?_
          refine do_ret ?_
          refine do_ret2 Try.results43 (res_cell_row (vs := [_, _, _, _, _, _, _, _, _, _, _, _, _, _, _, _, _, _]) rfl row49 rfl (cells_pts (by repeat (first | with_reducible exact Sel.head | apply Sel.tail)) rfl)) (res_tmp rfl) ?_
          intro w hw
          have hlong : ¬ 65536 < B.length := by omega
          rw [if_neg hlong, if_neg h23, if_neg h31, if_neg (of_decide_eq_false (hz.symm.trans h36))]
          exact ⟨⟨a, ⟨kind, op, id, name, n, why, slot, epoch, at_, last, A2, c2, data⟩⟩, by rw [← hx]; rfl, rfl, hw.sub (by repeat (first | exact Pick.nil | apply Pick.cons (by repeat (first | with_reducible exact Sel.head | apply Sel.tail))))⟩
end Go.Proofs.Ytglcmlicfmmlpaa
