/-
  The reference's reader: operations, replies, commands, asks, results.
-/
import Derived.Test.YtglcmlicfmmlpaaC18
namespace Go.Proofs.Ytglcmlicfmmlpaa
open Go.RowKit
set_option linter.unusedSimpArgs false
set_option linter.unusedVariables false

section
variable {r : Nat} {B : List UInt8} {s : RS}
theorem refGetOp_spec (F : HP) (hs : s.at_ ≤ B.length) (hl : B.length ≤ 140737488355328) :
    Spec Try.prog 126 [.pointer (some ⟨r, 0, none⟩)] [rdO 194 r B s] F (fun _ : Unit => True) (fun _ => .agg (rOp B s).1.L.toArray) (fun _ => [rdO 194 r B (rOp B s).2]) := by
  intro ω w hh
  refine enter Try.func126 rfl Try.ntmps126 rfl hh ?_
  simp only [List.cons_append, List.nil_append, argsB]
  obtain ⟨⟨a, s1⟩, ha⟩ : ∃ q, rI B s = q := ⟨_, rfl⟩
  have h1 : s1.at_ ≤ B.length := by have := rI_ok hs; rw [ha] at this; exact this
  obtain ⟨⟨b, s2⟩, hb⟩ : ∃ q, rB B s1 = q := ⟨_, rfl⟩
  have h2 : s2.at_ ≤ B.length := by have := rB_ok h1; rw [hb] at this; exact this
  obtain ⟨⟨c, s3⟩, hc⟩ : ∃ q, rB B s2 = q := ⟨_, rfl⟩
  have h3 : s3.at_ ≤ B.length := by have := rB_ok h2; rw [hc] at this; exact this
  obtain ⟨⟨d, s4⟩, hd⟩ : ∃ q, rI B s3 = q := ⟨_, rfl⟩
  have h4 : s4.at_ ≤ B.length := by have := rI_ok h3; rw [hd] at this; exact this
  obtain ⟨⟨e, s5⟩, he⟩ : ∃ q, rB B s4 = q := ⟨_, rfl⟩
  have h5 : s5.at_ ≤ B.length := by have := rB_ok h4; rw [he] at this; exact this
  obtain ⟨⟨f, s6⟩, hf⟩ : ∃ q, rI B s5 = q := ⟨_, rfl⟩
  have h6 : s6.at_ ≤ B.length := by have := rI_ok h5; rw [hf] at this; exact this
  obtain ⟨⟨g, s7⟩, hg⟩ : ∃ q, rI B s6 = q := ⟨_, rfl⟩
  have hop : rOp B s = (⟨a, b, c, d, e, f, g⟩, s7) := by simp only [rOp, ha, hb, hc, hd, he, hf, hg]
  rw [hop]
  simp only [GOp.L]
  refine do_seq ?_
  refine do_region ?_
  refine run_alloc rfl (by decide) zero24 (fun b2 => ?_)
  refine run_nil ?_
  refine St.then_n ?_
  refine do_seq ?_
  refine do_region ?_
  refine run_alloc rfl (by decide) zero24 (fun b3 => ?_)
  refine run_nil ?_
  refine St.then_n ?_
  refine do_seq ?_
  refine do_region ?_
  refine run_read rfl (by decide) (fun _ => nofun) (rd_move rfl) ?_
  refine run_spec rfl (by decide) (by kernel_rfl) rfl (by repeat (first | exact Pick.nil | apply Pick.cons (by repeat (first | with_reducible exact Sel.head | apply Sel.tail)))) (refRdInt_spec _ hs hl) ?_
  rintro ⟨⟩ -
  rw [ha]
  dsimp only
  try simp only [List.cons_append, List.nil_append]
  first | refine run_read rfl (by decide) (fun _ => nofun) (rd_fieldAddr0 rfl fld24_0) ?_ | refine run_read rfl (by decide) (fun _ => nofun) (rd_fieldAddr rfl fld24_0) ?_
  refine run_store rfl rfl rfl (by repeat (first | with_reducible exact Sel.head | apply Sel.tail)) row3 rfl rfl (by simp only [List.set_cons_succ, List.set_cons_zero]; exact rfl) ?_
  refine run_nil ?_
  refine St.then_n ?_
  refine do_seq ?_
  refine do_region ?_
  refine run_read rfl (by decide) (fun _ => nofun) (rd_move rfl) ?_
  refine run_spec rfl (by decide) (by kernel_rfl) rfl (by repeat (first | exact Pick.nil | apply Pick.cons (by repeat (first | with_reducible exact Sel.head | apply Sel.tail)))) (refRdText_spec _ h1 hl) ?_
  rintro ⟨⟩ -
  rw [hb]
  dsimp only
  try simp only [List.cons_append, List.nil_append]
  first | refine run_read rfl (by decide) (fun _ => nofun) (rd_fieldAddr0 rfl fld24_1) ?_ | refine run_read rfl (by decide) (fun _ => nofun) (rd_fieldAddr rfl fld24_1) ?_
  refine run_store rfl rfl rfl (by repeat (first | with_reducible exact Sel.head | apply Sel.tail)) row9 rfl rfl (by simp only [List.set_cons_succ, List.set_cons_zero]; exact rfl) ?_
  refine run_nil ?_
  refine St.keep (β' := [(0, _), (2, _), (3, _)]) ⟨rfl, rfl, rfl, trivial⟩ ?_
  refine St.then_n ?_
  refine do_seq ?_
  refine do_region ?_
  refine run_read rfl (by decide) (fun _ => nofun) (rd_move rfl) ?_
  refine run_spec rfl (by decide) (by kernel_rfl) rfl (by repeat (first | exact Pick.nil | apply Pick.cons (by repeat (first | with_reducible exact Sel.head | apply Sel.tail)))) (refRdText_spec _ h2 hl) ?_
  rintro ⟨⟩ -
  rw [hc]
  dsimp only
  try simp only [List.cons_append, List.nil_append]
  first | refine run_read rfl (by decide) (fun _ => nofun) (rd_fieldAddr0 rfl fld24_2) ?_ | refine run_read rfl (by decide) (fun _ => nofun) (rd_fieldAddr rfl fld24_2) ?_
  refine run_store rfl rfl rfl (by repeat (first | with_reducible exact Sel.head | apply Sel.tail)) row9 rfl rfl (by simp only [List.set_cons_succ, List.set_cons_zero]; exact rfl) ?_
  refine run_nil ?_
  refine St.then_n ?_
  refine do_seq ?_
  refine do_region ?_
  refine run_read rfl (by decide) (fun _ => nofun) (rd_move rfl) ?_
  refine run_spec rfl (by decide) (by kernel_rfl) rfl (by repeat (first | exact Pick.nil | apply Pick.cons (by repeat (first | with_reducible exact Sel.head | apply Sel.tail)))) (refRdInt_spec _ h3 hl) ?_
  rintro ⟨⟩ -
  rw [hd]
  dsimp only
  try simp only [List.cons_append, List.nil_append]
  first | refine run_read rfl (by decide) (fun _ => nofun) (rd_fieldAddr0 rfl fld24_3) ?_ | refine run_read rfl (by decide) (fun _ => nofun) (rd_fieldAddr rfl fld24_3) ?_
  refine run_store rfl rfl rfl (by repeat (first | with_reducible exact Sel.head | apply Sel.tail)) row2 rfl rfl (by simp only [List.set_cons_succ, List.set_cons_zero]; exact rfl) ?_
  refine run_nil ?_
  refine St.keep (β' := [(0, _), (2, _), (3, _)]) ⟨rfl, rfl, rfl, trivial⟩ ?_
  refine St.then_n ?_
  refine do_seq ?_
  refine do_region ?_
  refine run_read rfl (by decide) (fun _ => nofun) (rd_move rfl) ?_
  refine run_spec rfl (by decide) (by kernel_rfl) rfl (by repeat (first | exact Pick.nil | apply Pick.cons (by repeat (first | with_reducible exact Sel.head | apply Sel.tail)))) (refRdText_spec _ h4 hl) ?_
  rintro ⟨⟩ -
  rw [he]
  dsimp only
  try simp only [List.cons_append, List.nil_append]
  first | refine run_read rfl (by decide) (fun _ => nofun) (rd_fieldAddr0 rfl fld24_4) ?_ | refine run_read rfl (by decide) (fun _ => nofun) (rd_fieldAddr rfl fld24_4) ?_
  refine run_store rfl rfl rfl (by repeat (first | with_reducible exact Sel.head | apply Sel.tail)) row9 rfl rfl (by simp only [List.set_cons_succ, List.set_cons_zero]; exact rfl) ?_
  refine run_nil ?_
  refine St.then_n ?_
  refine do_seq ?_
  refine do_region ?_
  refine run_read rfl (by decide) (fun _ => nofun) (rd_move rfl) ?_
  refine run_spec rfl (by decide) (by kernel_rfl) rfl (by repeat (first | exact Pick.nil | apply Pick.cons (by repeat (first | with_reducible exact Sel.head | apply Sel.tail)))) (refRdInt_spec _ h5 hl) ?_
  rintro ⟨⟩ -
  rw [hf]
  dsimp only
  try simp only [List.cons_append, List.nil_append]
  first | refine run_read rfl (by decide) (fun _ => nofun) (rd_fieldAddr0 rfl fld24_5) ?_ | refine run_read rfl (by decide) (fun _ => nofun) (rd_fieldAddr rfl fld24_5) ?_
  refine run_store rfl rfl rfl (by repeat (first | with_reducible exact Sel.head | apply Sel.tail)) row3 rfl rfl (by simp only [List.set_cons_succ, List.set_cons_zero]; exact rfl) ?_
  refine run_nil ?_
  refine St.keep (β' := [(0, _), (2, _), (3, _)]) ⟨rfl, rfl, rfl, trivial⟩ ?_
  refine St.then_n ?_
  refine do_seq ?_
  refine do_region ?_
  refine run_read rfl (by decide) (fun _ => nofun) (rd_move rfl) ?_
  refine run_spec rfl (by decide) (by kernel_rfl) rfl (by repeat (first | exact Pick.nil | apply Pick.cons (by repeat (first | with_reducible exact Sel.head | apply Sel.tail)))) (refRdInt_spec _ h6 hl) ?_
  rintro ⟨⟩ -
  rw [hg]
  dsimp only
  try simp only [List.cons_append, List.nil_append]
  first | refine run_read rfl (by decide) (fun _ => nofun) (rd_fieldAddr0 rfl fld24_6) ?_ | refine run_read rfl (by decide) (fun _ => nofun) (rd_fieldAddr rfl fld24_6) ?_
  refine run_store rfl rfl rfl (by repeat (first | with_reducible exact Sel.head | apply Sel.tail)) row3 rfl rfl (by simp only [List.set_cons_succ, List.set_cons_zero]; exact rfl) ?_
  refine run_nil ?_
  refine St.keep (β' := [(2, _), (3, _)]) ⟨rfl, rfl, trivial⟩ ?_
  refine St.then_n ?_
  refine do_seq ?_
  refine do_region ?_
  refine run_read rfl (by decide) (fun _ => nofun) (rd_load_row (vs := [_, _, _, _, _, _, _]) rfl row24 rfl (cells_pts (by repeat (first | with_reducible exact Sel.head | apply Sel.tail)) rfl)) ?_
  first | refine run_store_all rfl rfl rfl (by repeat (first | with_reducible exact Sel.head | apply Sel.tail)) row24 rfl rfl rfl ?_ | refine run_store_mid rfl rfl rfl (by repeat (first | with_reducible exact Sel.head | apply Sel.tail)) row24 rfl rfl rfl (by simp only [setL, List.length_cons, List.length_nil, Nat.reduceAdd, List.take_succ_cons, List.take_zero, List.drop_succ_cons, List.drop_zero, List.cons_append, List.nil_append, List.append_nil]; exact rfl) ?_
  refine run_nil ?_
  refine St.then_n ?_
  refine do_ret ?_
  refine do_ret1 Try.results126 (res_cell_row (vs := [_, _, _, _, _, _, _]) rfl row24 rfl (cells_pts (by repeat (first | with_reducible exact Sel.head | apply Sel.tail)) rfl)) ?_
  intro w hw
  exact ⟨(), trivial, rfl, hw.sub (by repeat (first | exact Pick.nil | apply Pick.cons (by repeat (first | with_reducible exact Sel.head | apply Sel.tail))))⟩
theorem refGetReply_spec (F : HP) (hs : s.at_ ≤ B.length) (hl : B.length ≤ 140737488355328) :
    Spec Try.prog 95 [.pointer (some ⟨r, 0, none⟩)] [rdO 194 r B s] F (fun _ : Option Addr × Nat => True) (fun x => .agg #[.int .i64 (rReply B s).1.1, .int .i64 (rReply B s).1.2.1, .slice x.1 (rReply B s).1.2.2.length x.2])
      (fun x => [own (.slice x.1 (rReply B s).1.2.2.length x.2) 108 2 (rReply B s).1.2.2.length ((rReply B s).1.2.2.flatMap rowC), rdO 194 r B (rReply B s).2]) := by
  intro ω w hh
  refine enter Try.func95 rfl Try.ntmps95 rfl hh ?_
  simp only [List.cons_append, List.nil_append, argsB]
  obtain ⟨⟨a, s1⟩, ha⟩ : ∃ q, rI B s = q := ⟨_, rfl⟩
  have h1 : s1.at_ ≤ B.length := by have := rI_ok hs; rw [ha] at this; exact this
  obtain ⟨⟨b, s2⟩, hb⟩ : ∃ q, rI B s1 = q := ⟨_, rfl⟩
  have h2 : s2.at_ ≤ B.length := by have := rI_ok h1; rw [hb] at this; exact this
  have hnl := @rN_le B s2 600
  have h3 := (@rN_ok B s2 600 h2).1
  obtain ⟨⟨n, s3⟩, hc⟩ : ∃ q, rN 600 B s2 = q := ⟨_, rfl⟩
  rw [hc] at hnl h3
  dsimp only at hnl h3
  obtain ⟨⟨rows, s4⟩, hd⟩ : ∃ q, rRows n B s3 = q := ⟨_, rfl⟩
  have hop : rReply B s = ((a, b, rows), s4) := by simp only [rReply, ha, hb, hc, hd]
  rw [hop]
  dsimp only
  refine do_seq ?_
  refine do_region ?_
  refine run_alloc rfl (by decide) zero33 (fun b2 => ?_)
  refine run_nil ?_
  refine St.then_n ?_
  refine do_seq ?_
  refine do_region ?_
  refine run_alloc rfl (by decide) zero33 (fun b3 => ?_)
  refine run_nil ?_
  refine St.then_n ?_
  refine do_seq ?_
  refine do_region ?_
  refine run_read rfl (by decide) (fun _ => nofun) (rd_move rfl) ?_
  refine run_spec rfl (by decide) (by kernel_rfl) rfl (by repeat (first | exact Pick.nil | apply Pick.cons (by repeat (first | with_reducible exact Sel.head | apply Sel.tail)))) (refRdInt_spec _ hs hl) ?_
  rintro ⟨⟩ -
  rw [ha]
  dsimp only
  try simp only [List.cons_append, List.nil_append]
  first | refine run_read rfl (by decide) (fun _ => nofun) (rd_fieldAddr0 rfl fld33_0) ?_ | refine run_read rfl (by decide) (fun _ => nofun) (rd_fieldAddr rfl fld33_0) ?_
  refine run_store rfl rfl rfl (by repeat (first | with_reducible exact Sel.head | apply Sel.tail)) row25 rfl rfl (by simp only [List.set_cons_succ, List.set_cons_zero]; exact rfl) ?_
  refine run_nil ?_
  refine St.then_n ?_
  refine do_seq ?_
  refine do_region ?_
  refine run_read rfl (by decide) (fun _ => nofun) (rd_move rfl) ?_
  refine run_spec rfl (by decide) (by kernel_rfl) rfl (by repeat (first | exact Pick.nil | apply Pick.cons (by repeat (first | with_reducible exact Sel.head | apply Sel.tail)))) (refRdInt_spec _ h1 hl) ?_
  rintro ⟨⟩ -
  rw [hb]
  dsimp only
  try simp only [List.cons_append, List.nil_append]
  first | refine run_read rfl (by decide) (fun _ => nofun) (rd_fieldAddr0 rfl fld33_1) ?_ | refine run_read rfl (by decide) (fun _ => nofun) (rd_fieldAddr rfl fld33_1) ?_
  refine run_store rfl rfl rfl (by repeat (first | with_reducible exact Sel.head | apply Sel.tail)) row2 rfl rfl (by simp only [List.set_cons_succ, List.set_cons_zero]; exact rfl) ?_
  refine run_nil ?_
  refine St.keep (β' := [(0, _), (2, _), (3, _)]) ⟨rfl, rfl, rfl, trivial⟩ ?_
  refine St.then_n ?_
  refine do_seq ?_
  refine do_region ?_
  refine run_read rfl (by decide) (fun _ => nofun) (rd_move rfl) ?_
  refine run_spec rfl (by decide) (by kernel_rfl) rfl (by repeat (first | exact Pick.nil | apply Pick.cons (by repeat (first | with_reducible exact Sel.head | apply Sel.tail)))) (refRdCount_spec _ 600 (by decide) h2 hl) ?_
  rintro ⟨⟩ -
  rw [hc]
  dsimp only
  try simp only [List.cons_append, List.nil_append]
  refine run_read rfl (by decide) (fun _ => nofun) (rd_assign rfl) ?_
  refine run_nil ?_
  refine St.then_n ?_
  refine do_seq ?_
  refine do_seq ?_
  refine do_region ?_
  refine run_read rfl (by decide) (fun _ => nofun) (rd_assign rfl) ?_
  refine run_nil ?_
  refine St.then_n ?_
  refine do_block ?_
  refine St.own_nil (T := 108) (k := 2) ?_
  refine do_loop (fun y : List GRow × RS × Option Addr × Nat => y.1.length ≤ n ∧ y.2.1.at_ ≤ B.length ∧ (rows, s4) = (y.1 ++ (rRows (n - y.1.length) B y.2.1).1, (rRows (n - y.1.length) B y.2.1).2))
    (fun y => [(0, .pointer (some ⟨r, 0, none⟩)), (2, .pointer (some ⟨b2, 0, none⟩)), (3, .pointer (some ⟨b3, 0, none⟩)), (4, .int .i64 n), (5, .int .i64 y.1.length)])
    (fun y => [rdO 194 r B y.2.1, pts b3 33 [.int .i64 a, .int .i64 b, .slice y.2.2.1 y.1.length y.2.2.2], own (.slice y.2.2.1 y.1.length y.2.2.2) 108 2 y.1.length (y.1.flatMap rowC), pts b2 33 [.int .i64 0, .int .i64 0, .slice none 0 0], F])
    (fun y => n - y.1.length) ([], s3, none, 0) ⟨by simp, h3, by dsimp only; rw [List.length_nil, Nat.sub_zero, hd]; rfl⟩ ⟨rfl, rfl, rfl, rfl, rfl, trivial⟩ (by simp only [List.length_nil, List.flatMap_nil]; exact (by repeat (first | exact Pick.nil | apply Pick.cons (by repeat (first | with_reducible exact Sel.head | apply Sel.tail))))) ?_
  rintro ⟨L, s5, A, c⟩ ⟨hln, h5, heq⟩
  dsimp only at hln h5 heq ⊢
  refine do_seq ?_
  refine do_seq ?_
  refine do_region ?_
  refine run_read rfl (by decide) (fun _ => nofun) (rd_move rfl) ?_
  refine run_read rfl (by decide) (fun _ => nofun) (rd_move rfl) ?_
  refine run_read rfl (by decide) (fun _ => nofun) (rd_lt rfl rfl) ?_
  refine run_nil ?_
  refine St.then_n ?_
  first | refine do_condp rfl (fun h17 => ?_) (fun h17 => ?_) | refine do_cond rfl (fun h17 => ?_) (fun h17 => ?_)
  · obtain ⟨⟨nm, s6⟩, hf⟩ : ∃ q, rB B s5 = q := ⟨_, rfl⟩
    have h6 : s6.at_ ≤ B.length := by have := rB_ok h5; rw [hf] at this; exact this
    obtain ⟨⟨am, s7⟩, hg⟩ : ∃ q, rI B s6 = q := ⟨_, rfl⟩
    have h7 : s7.at_ ≤ B.length := by have := rI_ok h6; rw [hg] at this; exact this
    have hstep : n - L.length = (n - (L.length + 1)) + 1 := by omega
    rw [hstep] at heq
    simp only [rRows, hf, hg] at heq
    refine do_skip ?_
    refine St.then_n ?_
    refine do_seq ?_
    refine do_block ?_
    refine do_seq ?_
    refine do_region ?_
    refine run_read rfl (by decide) (fun _ => nofun) (rd_move rfl) ?_
    refine run_spec rfl (by decide) (by kernel_rfl) rfl (by repeat (first | exact Pick.nil | apply Pick.cons (by repeat (first | with_reducible exact Sel.head | apply Sel.tail)))) (refRdText_spec _ h5 hl) ?_
    rintro ⟨⟩ -
    rw [hf]
    dsimp only
    try simp only [List.cons_append, List.nil_append]
    refine run_read rfl (by decide) (fun _ => nofun) (rd_assign rfl) ?_
    refine run_nil ?_
    refine St.keep (β' := [(0, _), (2, _), (3, _), (4, _), (5, _), (6, _)]) ⟨rfl, rfl, rfl, rfl, rfl, rfl, trivial⟩ ?_
    refine St.then_n ?_
    refine do_draw [[1, 7, 8, 9], [7, 8, 9], [5, 6, 7, 8, 9], [4, 5, 6, 7, 8, 9], [5, 6, 7, 8, 9], [6, 7, 8, 9], [7, 8, 9], [8, 9], [9], []] (by kernel_rfl) rfl ?_
    first | refine any_take (i := 0) (by kernel_rfl) rfl rfl (by decide) (fun _ _ _ _ _ h => h) rfl (rd_fieldAddr0 rfl fld33_2) ?_ | refine any_take (i := 0) (by kernel_rfl) rfl rfl (by decide) (fun _ _ _ _ _ h => h) rfl (rd_fieldAddr rfl fld33_2) ?_
    refine any_take (i := 1) (by kernel_rfl) rfl rfl (by decide) (fun _ _ _ _ _ h => h) rfl (rd_load rfl row31 (cells_pts1 (by repeat (first | with_reducible exact Sel.head | apply Sel.tail)) rfl)) ?_
    refine any_take (i := 2) (by kernel_rfl) rfl rfl (by decide) (fun _ _ _ _ _ h => h) rfl (rd_move rfl) ?_
    refine any_take (i := 3) (by kernel_rfl) rfl rfl (by decide) (fun _ _ _ _ _ h => h) rfl (rd_move rfl) ?_
    refine any_run (j := 4) (by kernel_rfl) rfl ?_
    refine run_spec rfl (by decide) (by kernel_rfl) rfl (by repeat (first | exact Pick.nil | apply Pick.cons (by repeat (first | with_reducible exact Sel.head | apply Sel.tail)))) (refRdInt_spec _ h6 hl) ?_
    rintro ⟨⟩ -
    rw [hg]
    dsimp only
    try simp only [List.cons_append, List.nil_append]
    refine run_nil ?_
    refine St.then_n ?_
    refine any_next (by apply Beh.drop (i := 3) (by kernel_rfl); apply Beh.keep (i := 2) (by kernel_rfl) rfl (rd_move rfl); (apply Beh.keep (i := 1) (by kernel_rfl) rfl (rd_load rfl row31 (cells_pts1 (by repeat (first | with_reducible exact Sel.head | apply Sel.tail)) rfl))); (first | apply Beh.keep (i := 0) (by kernel_rfl) rfl (rd_fieldAddr0 rfl fld33_2) | apply Beh.keep (i := 0) (by kernel_rfl) rfl (rd_fieldAddr rfl fld33_2)); exact .nil) ?_
    refine any_take (i := 5) (by kernel_rfl) rfl rfl (by decide) (fun _ _ _ _ _ h => h) rfl (rd_buildM (l := [(0, (Operand.tmp 24)), (1, (Operand.tmp 26))]) (vs := [_, _]) zero108 plc108 rfl rfl) ?_
    refine any_run (j := 6) (by kernel_rfl) rfl ?_
    refine run_buildSlice (l := [(Operand.tmp 27)]) rfl (by decide) Try.underlying31 ei108 rfl rfl (by decide) (by decide) (fun b28 => ?_)
    simp only [joinL, cells_agg, cells_int, cells_bcell, cells_bool, cells_string, cells_pointer, cells_slice, cells_map, cells_func, List.cons_append, List.nil_append, List.append_nil]
    refine run_nil ?_
    refine St.then_n ?_
    refine any_next (by apply Beh.drop (i := 5) (by kernel_rfl); apply Beh.drop (i := 2) (by kernel_rfl); (apply Beh.keep (i := 1) (by kernel_rfl) rfl (rd_load rfl row31 (cells_pts1 (by repeat (first | with_reducible exact Sel.head | apply Sel.tail)) rfl))); (first | apply Beh.keep (i := 0) (by kernel_rfl) rfl (rd_fieldAddr0 rfl fld33_2) | apply Beh.keep (i := 0) (by kernel_rfl) rfl (rd_fieldAddr rfl fld33_2)); exact .nil) ?_
    refine any_run (j := 7) (by kernel_rfl) rfl ?_
    refine run_append_src rfl (by decide) Try.underlying31 ei108 rfl rfl (by repeat (first | with_reducible exact Sel.head | apply Sel.tail)) (src_pts Try.underlying31 (by repeat (first | with_reducible exact Sel.head | apply Sel.tail)) rfl (by decide) rfl) (by simp; omega) (by simp [maxLen]; omega) (fun v2 _ => ?_)
    refine St.vw vw_own .head (fun A2 c2 hv2 _ _ _ => ?_)
    subst hv2
    simp only [List.length_cons, List.length_nil, Nat.zero_add]
    refine run_nil ?_
    refine St.then_n ?_
    refine any_next (by apply Beh.drop (i := 1) (by kernel_rfl); apply Beh.drop (i := 0) (by kernel_rfl); exact .nil) ?_
    first | refine any_take (i := 8) (by kernel_rfl) rfl rfl (by decide) (fun _ _ _ _ _ h => h) rfl (rd_fieldAddr0 rfl fld33_2) ?_ | refine any_take (i := 8) (by kernel_rfl) rfl rfl (by decide) (fun _ _ _ _ _ h => h) rfl (rd_fieldAddr rfl fld33_2) ?_
    refine any_run (j := 9) (by kernel_rfl) rfl ?_
    refine run_store rfl rfl rfl (by repeat (first | with_reducible exact Sel.head | apply Sel.tail)) row31 rfl rfl (by simp only [List.set_cons_succ, List.set_cons_zero]; exact rfl) ?_
    refine run_nil ?_
    refine St.then_n ?_
    refine any_next (by apply Beh.drop (i := 8) (by kernel_rfl); exact .nil) ?_
    refine any_nil (by kernel_rfl) ?_
    refine St.keep (β' := [(0, _), (2, _), (3, _), (4, _), (5, _)]) ⟨rfl, rfl, rfl, rfl, rfl, trivial⟩ ?_
    refine St.blk_n ?_
    refine St.then_n ?_
    refine do_region ?_
    refine run_read rfl (by decide) (fun _ => nofun) (rd_move rfl) ?_
    first | refine run_read rfl (by decide) (fun _ => nofun) ((rd_add rfl rfl).eq (congrArg (Value.int .i64) (IntWalk.i64_in _ (by omega)))) ?_ | refine run_read rfl (by decide) (fun _ => nofun) (rd_add rfl rfl) ?_
    refine run_read rfl (by decide) (fun _ => nofun) (rd_assign rfl) ?_
    refine run_nil ?_
    refine St.then_n ?_
    exact loop_back (L ++ [⟨nm, am⟩], s7, A2, c2) ⟨by simp; omega, h7, by dsimp only; rw [List.length_append, List.length_singleton, heq]; simp⟩ (by simp; omega) ⟨rfl, rfl, rfl, rfl, by simp; rfl, trivial⟩ (by dsimp only; rw [List.length_append, List.length_singleton, List.flatMap_append, show [(⟨nm, am⟩ : GRow)].flatMap rowC = [.string (strOf nm), .int .i64 am] from rfl]; exact (by repeat (first | exact Pick.nil | apply Pick.cons (by repeat (first | with_reducible exact Sel.head | apply Sel.tail)))))
  · refine do_exit ?_
    refine St.then_x ?_
    refine St.then_x ?_
    refine St.blk_s ?_
    refine St.then_n ?_
    refine do_seq ?_
    refine do_region ?_
    refine run_read rfl (by decide) (fun _ => nofun) (rd_load_row (vs := [_, _, _]) rfl row33 rfl (cells_pts (by repeat (first | with_reducible exact Sel.head | apply Sel.tail)) rfl)) ?_
    first | refine run_store_all rfl rfl rfl (by repeat (first | with_reducible exact Sel.head | apply Sel.tail)) row33 rfl rfl rfl ?_ | refine run_store_mid rfl rfl rfl (by repeat (first | with_reducible exact Sel.head | apply Sel.tail)) row33 rfl rfl rfl (by simp only [setL, List.length_cons, List.length_nil, Nat.reduceAdd, List.take_succ_cons, List.take_zero, List.drop_succ_cons, List.drop_zero, List.cons_append, List.nil_append, List.append_nil]; exact rfl) ?_
    refine run_nil ?_
    refine St.keep (β' := [(2, _)]) ⟨rfl, trivial⟩ ?_
    refine St.then_n ?_
    refine do_ret ?_
    refine do_ret1 Try.results95 (res_cell_row (vs := [_, _, _]) rfl row33 rfl (cells_pts (by repeat (first | with_reducible exact Sel.head | apply Sel.tail)) rfl)) ?_
    intro w hw
    have hz : n - L.length = 0 := by omega
    rw [hz] at heq
    simp only [rRows, List.append_nil, Prod.mk.injEq] at heq
    obtain ⟨rfl, rfl⟩ := heq
    exact ⟨(A, c), trivial, rfl, hw.sub (by repeat (first | exact Pick.nil | apply Pick.cons (by repeat (first | with_reducible exact Sel.head | apply Sel.tail))))⟩
end
set_option maxRecDepth 4000 in
set_option maxHeartbeats 1000000 in
theorem ref13Parse_spec (F : HP) (v : Value) (B : List UInt8) (hF : VwB F v B) (hl : B.length ≤ 140737488355328) :
    Spec Try.prog 91 [v] [] F (fun x : GCmd => x.plain = (parseC B).1) (fun x => .tuple #[.agg x.L.toArray, .int .i64 (parseC B).2]) (fun x => [bytesO x.v x.data]) := by
  intro ω w hh
  refine enter Try.func91 rfl Try.ntmps91 rfl hh ?_
  simp only [List.nil_append, argsB]
  refine St.vw hF .head (fun A c hv _ _ _ => ?_)
  subst hv
  obtain ⟨⟨a, s1⟩, e1⟩ : ∃ q, rI B ⟨0, 0⟩ = q := ⟨_, rfl⟩
  have k1 : s1.at_ ≤ B.length := by have := rI_ok (B := B) (s := ⟨0, 0⟩) (Nat.zero_le _); rw [e1] at this; exact this
  obtain ⟨⟨o, s2⟩, e2⟩ : ∃ q, rOp B s1 = q := ⟨_, rfl⟩
  have k2 : s2.at_ ≤ B.length := by have := rOp_ok k1; rw [e2] at this; exact this
  obtain ⟨⟨id, s3⟩, e3⟩ : ∃ q, rB B s2 = q := ⟨_, rfl⟩
  have k3 : s3.at_ ≤ B.length := by have := rB_ok k2; rw [e3] at this; exact this
  obtain ⟨⟨name, s4⟩, e4⟩ : ∃ q, rB B s3 = q := ⟨_, rfl⟩
  have k4 : s4.at_ ≤ B.length := by have := rB_ok k3; rw [e4] at this; exact this
  obtain ⟨⟨n, s5⟩, e5⟩ : ∃ q, rI B s4 = q := ⟨_, rfl⟩
  have k5 : s5.at_ ≤ B.length := by have := rI_ok k4; rw [e5] at this; exact this
  obtain ⟨⟨why, s6⟩, e6⟩ : ∃ q, rI B s5 = q := ⟨_, rfl⟩
  have k6 : s6.at_ ≤ B.length := by have := rI_ok k5; rw [e6] at this; exact this
  obtain ⟨⟨slot, s7⟩, e7⟩ : ∃ q, rI B s6 = q := ⟨_, rfl⟩
  have k7 : s7.at_ ≤ B.length := by have := rI_ok k6; rw [e7] at this; exact this
  obtain ⟨⟨epoch, s8⟩, e8⟩ : ∃ q, rI B s7 = q := ⟨_, rfl⟩
  have k8 : s8.at_ ≤ B.length := by have := rI_ok k7; rw [e8] at this; exact this
  obtain ⟨⟨at_, s9⟩, e9⟩ : ∃ q, rI B s8 = q := ⟨_, rfl⟩
  have k9 : s9.at_ ≤ B.length := by have := rI_ok k8; rw [e9] at this; exact this
  obtain ⟨⟨last, s10⟩, e10⟩ : ∃ q, rT B s9 = q := ⟨_, rfl⟩
  have k10 : s10.at_ ≤ B.length := by have := rT_ok k9; rw [e10] at this; exact this
  obtain ⟨⟨data, s11⟩, e11⟩ : ∃ q, rB B s10 = q := ⟨_, rfl⟩
  have k11 : s11.at_ ≤ B.length := by have := rB_ok k10; rw [e11] at this; exact this
  have hop : pCmd B = (⟨a, o, id, name, n, why, slot, epoch, at_, last, none, 0, data⟩, s11) := by simp only [pCmd, e1, e2, e3, e4, e5, e6, e7, e8, e9, e10, e11]
  unfold parseC
  rw [hop]
  dsimp only
  refine do_seq ?_
  refine do_region ?_
  refine run_alloc rfl (by decide) zero28 (fun b2 => ?_)
  refine run_read rfl (by decide) (fun _ => nofun) (rd_assign rfl) ?_
  refine run_nil ?_
  refine St.then_n ?_
  refine do_seq ?_
  refine do_seq ?_
  refine do_region ?_
  refine run_read rfl (by decide) (fun _ => nofun) (rd_move rfl) ?_
  refine run_read rfl (by decide) (fun _ => nofun) (rd_len Try.underlying26 rfl) ?_
  refine run_read rfl (by decide) (fun _ => nofun) (rd_gt rfl rfl) ?_
  refine run_nil ?_
  refine St.then_n ?_
  first | refine do_condp rfl (fun h9 => ?_) (fun h9 => ?_) | refine do_cond rfl (fun h9 => ?_) (fun h9 => ?_)
  · refine do_seq ?_
    refine do_region ?_
    refine run_read rfl (by decide) (fun _ => nofun) (rd_buildM (l := []) (vs := [_, _, _, _, _, _, _, _, _, _, _, _, _, _, _, _, _]) zero28 plc28 rfl rfl) ?_
    first | refine run_store_all rfl rfl rfl (by repeat (first | with_reducible exact Sel.head | apply Sel.tail)) row28 rfl rfl rfl ?_ | refine run_store_mid rfl rfl rfl (by repeat (first | with_reducible exact Sel.head | apply Sel.tail)) row28 rfl rfl rfl (by simp only [setL, List.length_cons, List.length_nil, Nat.reduceAdd, List.take_succ_cons, List.take_zero, List.drop_succ_cons, List.drop_zero, List.cons_append, List.nil_append, List.append_nil]; exact rfl) ?_
    refine run_read rfl (by decide) (fun _ => nofun) (rd_assign rfl) ?_
    refine run_nil ?_
    refine St.keep (β' := [(2, _), (3, _)]) ⟨rfl, rfl, trivial⟩ ?_
    refine St.then_n ?_
    refine do_ret ?_
    refine St.then_r ?_
    refine do_ret2 Try.results91 (res_cell_row (vs := [_, _, _, _, _, _, _, _, _, _, _, _, _, _, _, _, _]) rfl row28 rfl (cells_pts (by repeat (first | with_reducible exact Sel.head | apply Sel.tail)) rfl)) (res_tmp rfl) ?_
    intro w hw
    have hlong : 65536 < B.length := by omega
    rw [if_pos hlong]
    exact ⟨noCmd, rfl, rfl, Holds.own_nil (hw.sub (by repeat (first | exact Pick.nil | apply Pick.cons (by repeat (first | with_reducible exact Sel.head | apply Sel.tail)))))⟩
  · refine do_skip ?_
    refine St.then_n ?_
    refine do_seq ?_
    refine do_region ?_
    refine run_read rfl (by decide) (fun _ => nofun) (rd_move rfl) ?_
    refine run_spec rfl (by decide) (by kernel_rfl) rfl (by repeat (first | exact Pick.nil | apply Pick.cons (by repeat (first | with_reducible exact Sel.head | apply Sel.tail)))) (refOf_spec _ _ _ (by first | with_reducible exact vwb_nil _ | exact Vw.sep hF (by repeat (first | with_reducible exact Sel.head | apply Sel.tail)) | exact Vw.sep hG (by repeat (first | with_reducible exact Sel.head | apply Sel.tail)) | exact Vw.sep vw_bytes (by repeat (first | with_reducible exact Sel.head | apply Sel.tail))) hl) ?_
    rintro r -
    try simp only [List.cons_append, List.nil_append]
    refine run_read rfl (by decide) (fun _ => nofun) (rd_assign rfl) ?_
    refine run_nil ?_
    refine St.keep (β' := [(2, _), (4, _)]) ⟨rfl, rfl, trivial⟩ ?_
    refine St.then_n ?_
    refine do_seq ?_
    refine do_region ?_
    refine run_alloc rfl (by decide) zero28 (fun b5 => ?_)
    refine run_nil ?_
    refine St.then_n ?_
    refine do_seq ?_
    refine do_region ?_
    refine run_read rfl (by decide) (fun _ => nofun) (rd_move rfl) ?_
    refine run_spec rfl (by decide) (by kernel_rfl) rfl (by repeat (first | exact Pick.nil | apply Pick.cons (by repeat (first | with_reducible exact Sel.head | apply Sel.tail)))) (refRdInt_spec _ (s := ⟨0, 0⟩) (Nat.zero_le _) hl) ?_
    rintro ⟨⟩ -
    rw [e1]
    dsimp only
    try simp only [List.cons_append, List.nil_append]
    first | refine run_read rfl (by decide) (fun _ => nofun) (rd_fieldAddr0 rfl fld28_0) ?_ | refine run_read rfl (by decide) (fun _ => nofun) (rd_fieldAddr rfl fld28_0) ?_
    refine run_store rfl rfl rfl (by repeat (first | with_reducible exact Sel.head | apply Sel.tail)) row3 rfl rfl (by simp only [List.set_cons_succ, List.set_cons_zero]; exact rfl) ?_
    refine run_nil ?_
    refine St.then_n ?_
    refine do_seq ?_
    refine do_region ?_
    refine run_read rfl (by decide) (fun _ => nofun) (rd_move rfl) ?_
    refine run_spec rfl (by decide) (by kernel_rfl) rfl (by repeat (first | exact Pick.nil | apply Pick.cons (by repeat (first | with_reducible exact Sel.head | apply Sel.tail)))) (refGetOp_spec _ k1 hl) ?_
    rintro ⟨⟩ -
    rw [e2]
    dsimp only
    try simp only [List.cons_append, List.nil_append]
    first | refine run_read rfl (by decide) (fun _ => nofun) (rd_fieldAddr0 rfl fld28_1) ?_ | refine run_read rfl (by decide) (fun _ => nofun) (rd_fieldAddr rfl fld28_1) ?_
    first | refine run_store_all rfl rfl rfl (by repeat (first | with_reducible exact Sel.head | apply Sel.tail)) row24 rfl rfl rfl ?_ | refine run_store_mid rfl rfl rfl (by repeat (first | with_reducible exact Sel.head | apply Sel.tail)) row24 rfl rfl rfl (by simp only [setL, List.length_cons, List.length_nil, Nat.reduceAdd, List.take_succ_cons, List.take_zero, List.drop_succ_cons, List.drop_zero, List.cons_append, List.nil_append, List.append_nil]; exact rfl) ?_
    refine run_nil ?_
    refine St.keep (β' := [(2, _), (4, _), (5, _)]) ⟨rfl, rfl, rfl, trivial⟩ ?_
    refine St.then_n ?_
    refine do_seq ?_
    refine do_region ?_
    refine run_read rfl (by decide) (fun _ => nofun) (rd_move rfl) ?_
    refine run_spec rfl (by decide) (by kernel_rfl) rfl (by repeat (first | exact Pick.nil | apply Pick.cons (by repeat (first | with_reducible exact Sel.head | apply Sel.tail)))) (refRdText_spec _ k2 hl) ?_
    rintro ⟨⟩ -
    rw [e3]
    dsimp only
    try simp only [List.cons_append, List.nil_append]
    first | refine run_read rfl (by decide) (fun _ => nofun) (rd_fieldAddr0 rfl fld28_2) ?_ | refine run_read rfl (by decide) (fun _ => nofun) (rd_fieldAddr rfl fld28_2) ?_
    refine run_store rfl rfl rfl (by repeat (first | with_reducible exact Sel.head | apply Sel.tail)) row9 rfl rfl (by simp only [List.set_cons_succ, List.set_cons_zero]; exact rfl) ?_
    refine run_nil ?_
    refine St.then_n ?_
    refine do_seq ?_
    refine do_region ?_
    refine run_read rfl (by decide) (fun _ => nofun) (rd_move rfl) ?_
    refine run_spec rfl (by decide) (by kernel_rfl) rfl (by repeat (first | exact Pick.nil | apply Pick.cons (by repeat (first | with_reducible exact Sel.head | apply Sel.tail)))) (refRdText_spec _ k3 hl) ?_
    rintro ⟨⟩ -
    rw [e4]
    dsimp only
    try simp only [List.cons_append, List.nil_append]
    first | refine run_read rfl (by decide) (fun _ => nofun) (rd_fieldAddr0 rfl fld28_3) ?_ | refine run_read rfl (by decide) (fun _ => nofun) (rd_fieldAddr rfl fld28_3) ?_
    refine run_store rfl rfl rfl (by repeat (first | with_reducible exact Sel.head | apply Sel.tail)) row9 rfl rfl (by simp only [List.set_cons_succ, List.set_cons_zero]; exact rfl) ?_
    refine run_nil ?_
    refine St.keep (β' := [(2, _), (4, _), (5, _)]) ⟨rfl, rfl, rfl, trivial⟩ ?_
    refine St.then_n ?_
    refine do_seq ?_
    refine do_region ?_
    refine run_read rfl (by decide) (fun _ => nofun) (rd_move rfl) ?_
    refine run_spec rfl (by decide) (by kernel_rfl) rfl (by repeat (first | exact Pick.nil | apply Pick.cons (by repeat (first | with_reducible exact Sel.head | apply Sel.tail)))) (refRdInt_spec _ k4 hl) ?_
    rintro ⟨⟩ -
    rw [e5]
    dsimp only
    try simp only [List.cons_append, List.nil_append]
    first | refine run_read rfl (by decide) (fun _ => nofun) (rd_fieldAddr0 rfl fld28_4) ?_ | refine run_read rfl (by decide) (fun _ => nofun) (rd_fieldAddr rfl fld28_4) ?_
    refine run_store rfl rfl rfl (by repeat (first | with_reducible exact Sel.head | apply Sel.tail)) row2 rfl rfl (by simp only [List.set_cons_succ, List.set_cons_zero]; exact rfl) ?_
    refine run_nil ?_
    refine St.then_n ?_
    refine do_seq ?_
    refine do_region ?_
    refine run_read rfl (by decide) (fun _ => nofun) (rd_move rfl) ?_
    refine run_spec rfl (by decide) (by kernel_rfl) rfl (by repeat (first | exact Pick.nil | apply Pick.cons (by repeat (first | with_reducible exact Sel.head | apply Sel.tail)))) (refRdInt_spec _ k5 hl) ?_
    rintro ⟨⟩ -
    rw [e6]
    dsimp only
    try simp only [List.cons_append, List.nil_append]
    first | refine run_read rfl (by decide) (fun _ => nofun) (rd_fieldAddr0 rfl fld28_5) ?_ | refine run_read rfl (by decide) (fun _ => nofun) (rd_fieldAddr rfl fld28_5) ?_
    refine run_store rfl rfl rfl (by repeat (first | with_reducible exact Sel.head | apply Sel.tail)) row25 rfl rfl (by simp only [List.set_cons_succ, List.set_cons_zero]; exact rfl) ?_
    refine run_nil ?_
    refine St.keep (β' := [(2, _), (4, _), (5, _)]) ⟨rfl, rfl, rfl, trivial⟩ ?_
    refine St.then_n ?_
    refine do_seq ?_
    refine do_region ?_
    refine run_read rfl (by decide) (fun _ => nofun) (rd_move rfl) ?_
    refine run_spec rfl (by decide) (by kernel_rfl) rfl (by repeat (first | exact Pick.nil | apply Pick.cons (by repeat (first | with_reducible exact Sel.head | apply Sel.tail)))) (refRdInt_spec _ k6 hl) ?_
    rintro ⟨⟩ -
    rw [e7]
    dsimp only
    try simp only [List.cons_append, List.nil_append]
    first | refine run_read rfl (by decide) (fun _ => nofun) (rd_fieldAddr0 rfl fld28_6) ?_ | refine run_read rfl (by decide) (fun _ => nofun) (rd_fieldAddr rfl fld28_6) ?_
    refine run_store rfl rfl rfl (by repeat (first | with_reducible exact Sel.head | apply Sel.tail)) row3 rfl rfl (by simp only [List.set_cons_succ, List.set_cons_zero]; exact rfl) ?_
    refine run_nil ?_
    refine St.then_n ?_
    refine do_seq ?_
    refine do_region ?_
    refine run_read rfl (by decide) (fun _ => nofun) (rd_move rfl) ?_
    refine run_spec rfl (by decide) (by kernel_rfl) rfl (by repeat (first | exact Pick.nil | apply Pick.cons (by repeat (first | with_reducible exact Sel.head | apply Sel.tail)))) (refRdInt_spec _ k7 hl) ?_
    rintro ⟨⟩ -
    rw [e8]
    dsimp only
    try simp only [List.cons_append, List.nil_append]
    first | refine run_read rfl (by decide) (fun _ => nofun) (rd_fieldAddr0 rfl fld28_7) ?_ | refine run_read rfl (by decide) (fun _ => nofun) (rd_fieldAddr rfl fld28_7) ?_
    refine run_store rfl rfl rfl (by repeat (first | with_reducible exact Sel.head | apply Sel.tail)) row2 rfl rfl (by simp only [List.set_cons_succ, List.set_cons_zero]; exact rfl) ?_
    refine run_nil ?_
    refine St.keep (β' := [(2, _), (4, _), (5, _)]) ⟨rfl, rfl, rfl, trivial⟩ ?_
    refine St.then_n ?_
    refine do_seq ?_
    refine do_region ?_
    refine run_read rfl (by decide) (fun _ => nofun) (rd_move rfl) ?_
    refine run_spec rfl (by decide) (by kernel_rfl) rfl (by repeat (first | exact Pick.nil | apply Pick.cons (by repeat (first | with_reducible exact Sel.head | apply Sel.tail)))) (refRdInt_spec _ k8 hl) ?_
    rintro ⟨⟩ -
    rw [e9]
    dsimp only
    try simp only [List.cons_append, List.nil_append]
    first | refine run_read rfl (by decide) (fun _ => nofun) (rd_fieldAddr0 rfl fld28_8) ?_ | refine run_read rfl (by decide) (fun _ => nofun) (rd_fieldAddr rfl fld28_8) ?_
    refine run_store rfl rfl rfl (by repeat (first | with_reducible exact Sel.head | apply Sel.tail)) row3 rfl rfl (by simp only [List.set_cons_succ, List.set_cons_zero]; exact rfl) ?_
    refine run_nil ?_
    refine St.then_n ?_
    refine do_seq ?_
    refine do_region ?_
    refine run_read rfl (by decide) (fun _ => nofun) (rd_move rfl) ?_
    refine run_spec rfl (by decide) (by kernel_rfl) rfl (by repeat (first | exact Pick.nil | apply Pick.cons (by repeat (first | with_reducible exact Sel.head | apply Sel.tail)))) (refRdBool_spec _ k9 hl) ?_
    rintro ⟨⟩ -
    rw [e10]
    dsimp only
    try simp only [List.cons_append, List.nil_append]
    first | refine run_read rfl (by decide) (fun _ => nofun) (rd_fieldAddr0 rfl fld28_9) ?_ | refine run_read rfl (by decide) (fun _ => nofun) (rd_fieldAddr rfl fld28_9) ?_
    refine run_store rfl rfl rfl (by repeat (first | with_reducible exact Sel.head | apply Sel.tail)) row4 rfl rfl (by simp only [List.set_cons_succ, List.set_cons_zero]; exact rfl) ?_
    refine run_nil ?_
    refine St.keep (β' := [(2, _), (4, _), (5, _)]) ⟨rfl, rfl, rfl, trivial⟩ ?_
    refine St.then_n ?_
    refine do_seq ?_
    refine do_region ?_
    refine run_read rfl (by decide) (fun _ => nofun) (rd_move rfl) ?_
    refine run_spec rfl (by decide) (by kernel_rfl) rfl (by repeat (first | exact Pick.nil | apply Pick.cons (by repeat (first | with_reducible exact Sel.head | apply Sel.tail)))) (refRdBytes_spec _ k10 hl) ?_
    rintro v1 -
    rw [e11]
    dsimp only
    refine St.vw vw_bytes .head (fun A1 c1 hv _ _ _ => ?_)
    subst hv
    try simp only [List.cons_append, List.nil_append]
    first | refine run_read rfl (by decide) (fun _ => nofun) (rd_fieldAddr0 rfl fld28_10) ?_ | refine run_read rfl (by decide) (fun _ => nofun) (rd_fieldAddr rfl fld28_10) ?_
    refine run_store rfl rfl rfl (by repeat (first | with_reducible exact Sel.head | apply Sel.tail)) row26 rfl rfl (by simp only [List.set_cons_succ, List.set_cons_zero]; exact rfl) ?_
    refine run_nil ?_
    refine St.then_n ?_
    refine do_seq ?_
    refine do_region ?_
    refine run_read rfl (by decide) (fun _ => nofun) (rd_move rfl) ?_
    refine run_spec rfl (by decide) (by kernel_rfl) rfl (by repeat (first | exact Pick.nil | apply Pick.cons (by repeat (first | with_reducible exact Sel.head | apply Sel.tail)))) (refRdEnd_spec _) ?_
    rintro ⟨⟩ -
    try simp only [List.cons_append, List.nil_append]
    refine run_read rfl (by decide) (fun _ => nofun) (rd_assign rfl) ?_
    refine run_nil ?_
    refine St.keep (β' := [(2, _), (5, _), (6, _)]) ⟨rfl, rfl, rfl, trivial⟩ ?_
    refine St.then_n ?_
    refine do_seq ?_
    refine do_seq ?_
    refine do_region ?_
    refine run_read rfl (by decide) (fun _ => nofun) (rd_move rfl) ?_
    refine run_read rfl (by decide) (fun _ => nofun) (rd_ne rfl rfl) ?_
    refine run_nil ?_
    refine St.then_n ?_
    first | refine do_condp rfl (fun h49 => ?_) (fun h49 => ?_) | refine do_cond rfl (fun h49 => ?_) (fun h49 => ?_)
    · refine do_seq ?_
      refine do_region ?_
      refine run_read rfl (by decide) (fun _ => nofun) (rd_buildM (l := []) (vs := [_, _, _, _, _, _, _, _, _, _, _, _, _, _, _, _, _]) zero28 plc28 rfl rfl) ?_
      refine run_read rfl (by decide) (fun _ => nofun) (rd_move rfl) ?_
      first | refine run_store_all rfl rfl rfl (by repeat (first | with_reducible exact Sel.head | apply Sel.tail)) row28 rfl rfl rfl ?_ | refine run_store_mid rfl rfl rfl (by repeat (first | with_reducible exact Sel.head | apply Sel.tail)) row28 rfl rfl rfl (by simp only [setL, List.length_cons, List.length_nil, Nat.reduceAdd, List.take_succ_cons, List.take_zero, List.drop_succ_cons, List.drop_zero, List.cons_append, List.nil_append, List.append_nil]; exact rfl) ?_
      refine run_read rfl (by decide) (fun _ => nofun) (rd_assign rfl) ?_
      refine run_nil ?_
      refine St.keep (β' := [(2, _), (3, _)]) ⟨rfl, rfl, trivial⟩ ?_
      refine St.then_n ?_
      refine do_ret ?_
      refine St.then_r ?_
      refine do_ret2 Try.results91 (res_cell_row (vs := [_, _, _, _, _, _, _, _, _, _, _, _, _, _, _, _, _]) rfl row28 rfl (cells_pts (by repeat (first | with_reducible exact Sel.head | apply Sel.tail)) rfl)) (res_tmp rfl) ?_
      intro w hw
      have hlong : ¬ 65536 < B.length := by omega
      rw [if_neg hlong, if_pos h49]
      exact ⟨noCmd, rfl, rfl, Holds.own_nil (hw.sub (by repeat (first | exact Pick.nil | apply Pick.cons (by repeat (first | with_reducible exact Sel.head | apply Sel.tail)))))⟩
    · refine do_skip ?_
      refine St.then_n ?_
      refine do_seq ?_
      refine do_region ?_
      refine run_read rfl (by decide) (fun _ => nofun) (rd_load_row (vs := [_, _, _, _, _, _, _, _, _, _, _, _, _, _, _, _, _]) rfl row28 rfl (cells_pts (by repeat (first | with_reducible exact Sel.head | apply Sel.tail)) rfl)) ?_
      first | refine run_store_all rfl rfl rfl (by repeat (first | with_reducible exact Sel.head | apply Sel.tail)) row28 rfl rfl rfl ?_ | refine run_store_mid rfl rfl rfl (by repeat (first | with_reducible exact Sel.head | apply Sel.tail)) row28 rfl rfl rfl (by simp only [setL, List.length_cons, List.length_nil, Nat.reduceAdd, List.take_succ_cons, List.take_zero, List.drop_succ_cons, List.drop_zero, List.cons_append, List.nil_append, List.append_nil]; exact rfl) ?_
      refine run_read rfl (by decide) (fun _ => nofun) (rd_assign rfl) ?_
      refine run_nil ?_
      refine St.keep (β' := [(2, _), (3, _)]) ⟨rfl, rfl, trivial⟩ ?_
      refine St.then_n ?_
      refine do_ret ?_
      refine do_ret2 Try.results91 (res_cell_row (vs := [_, _, _, _, _, _, _, _, _, _, _, _, _, _, _, _, _]) rfl row28 rfl (cells_pts (by repeat (first | with_reducible exact Sel.head | apply Sel.tail)) rfl)) (res_tmp rfl) ?_
      intro w hw
      have hlong : ¬ 65536 < B.length := by omega
      rw [if_neg hlong, if_neg h49]
      exact ⟨⟨a, o, id, name, n, why, slot, epoch, at_, last, A1, c1, data⟩, rfl, rfl, hw.sub (by repeat (first | exact Pick.nil | apply Pick.cons (by repeat (first | with_reducible exact Sel.head | apply Sel.tail))))⟩
set_option maxRecDepth 4000 in
set_option maxHeartbeats 1000000 in
theorem ref15Parse_spec (F : HP) (v : Value) (B : List UInt8) (hF : VwB F v B) (hl : B.length ≤ 140737488355328) :
    Spec Try.prog 44 [v] [] F (fun x : GAsk => x.plain = (parseA B).1) (fun x => .tuple #[.agg x.L.toArray, .int .i64 (parseA B).2]) (fun x => [bytesO x.cmd.v x.cmd.data]) := by
  intro ω w hh
  refine enter Try.func44 rfl Try.ntmps44 rfl hh ?_
  simp only [List.nil_append, argsB]
  refine St.vw hF .head (fun A c hv _ _ _ => ?_)
  subst hv
  obtain ⟨⟨a, s1⟩, e1⟩ : ∃ q, rI B ⟨0, 0⟩ = q := ⟨_, rfl⟩
  have k1 : s1.at_ ≤ B.length := by have := rI_ok (B := B) (s := ⟨0, 0⟩) (Nat.zero_le _); rw [e1] at this; exact this
  obtain ⟨⟨b, s2⟩, e2⟩ : ∃ q, rB B s1 = q := ⟨_, rfl⟩
  have k2 : s2.at_ ≤ B.length := by have := rB_ok k1; rw [e2] at this; exact this
  have kb : b.length ≤ B.length := by have := rB_len B s1; rw [e2] at this; exact this
  have hop : pAsk B = (a, b, s2) := by simp only [pAsk, e1, e2]
  obtain ⟨⟨pc, pe⟩, e3⟩ : ∃ q, parseC b = q := ⟨_, rfl⟩
  unfold parseA
  rw [hop]
  dsimp only
  rw [e3]
  dsimp only
  refine do_seq ?_
  refine do_region ?_
  refine run_alloc rfl (by decide) zero30 (fun b2 => ?_)
  refine run_read rfl (by decide) (fun _ => nofun) (rd_assign rfl) ?_
  refine run_nil ?_
  refine St.then_n ?_
  refine do_seq ?_
  refine do_seq ?_
  refine do_region ?_
  refine run_read rfl (by decide) (fun _ => nofun) (rd_move rfl) ?_
  refine run_read rfl (by decide) (fun _ => nofun) (rd_len Try.underlying26 rfl) ?_
  refine run_read rfl (by decide) (fun _ => nofun) (rd_gt rfl rfl) ?_
  refine run_nil ?_
  refine St.then_n ?_
  first | refine do_condp rfl (fun h12 => ?_) (fun h12 => ?_) | refine do_cond rfl (fun h12 => ?_) (fun h12 => ?_)
  · refine do_seq ?_
    refine do_region ?_
    refine run_read rfl (by decide) (fun _ => nofun) (rd_buildM (l := []) (vs := [_, _, _, _, _, _, _, _, _, _, _, _, _, _, _, _, _, _]) zero30 plc30 rfl rfl) ?_
    first | refine run_store_all rfl rfl rfl (by repeat (first | with_reducible exact Sel.head | apply Sel.tail)) row30 rfl rfl rfl ?_ | refine run_store_mid rfl rfl rfl (by repeat (first | with_reducible exact Sel.head | apply Sel.tail)) row30 rfl rfl rfl (by simp only [setL, List.length_cons, List.length_nil, Nat.reduceAdd, List.take_succ_cons, List.take_zero, List.drop_succ_cons, List.drop_zero, List.cons_append, List.nil_append, List.append_nil]; exact rfl) ?_
    refine run_read rfl (by decide) (fun _ => nofun) (rd_assign rfl) ?_
    refine run_nil ?_
    refine St.keep (β' := [(2, _), (3, _)]) ⟨rfl, rfl, trivial⟩ ?_
    refine St.then_n ?_
    refine do_ret ?_
    refine St.then_r ?_
    refine do_ret2 Try.results44 (res_cell_row (vs := [_, _, _, _, _, _, _, _, _, _, _, _, _, _, _, _, _, _]) rfl row30 rfl (cells_pts (by repeat (first | with_reducible exact Sel.head | apply Sel.tail)) rfl)) (res_tmp rfl) ?_
    intro w hw
    have hlong : 65536 < B.length := by omega
    rw [if_pos hlong]
    exact ⟨noAsk, rfl, rfl, Holds.own_nil (hw.sub (by repeat (first | exact Pick.nil | apply Pick.cons (by repeat (first | with_reducible exact Sel.head | apply Sel.tail)))))⟩
  · refine do_skip ?_
    refine St.then_n ?_
    refine do_seq ?_
    refine do_region ?_
    refine run_read rfl (by decide) (fun _ => nofun) (rd_move rfl) ?_
    refine run_spec rfl (by decide) (by kernel_rfl) rfl (by repeat (first | exact Pick.nil | apply Pick.cons (by repeat (first | with_reducible exact Sel.head | apply Sel.tail)))) (refOf_spec _ _ _ (by first | with_reducible exact vwb_nil _ | exact Vw.sep hF (by repeat (first | with_reducible exact Sel.head | apply Sel.tail)) | exact Vw.sep hG (by repeat (first | with_reducible exact Sel.head | apply Sel.tail)) | exact Vw.sep vw_bytes (by repeat (first | with_reducible exact Sel.head | apply Sel.tail))) hl) ?_
    rintro r -
    try simp only [List.cons_append, List.nil_append]
    refine run_read rfl (by decide) (fun _ => nofun) (rd_assign rfl) ?_
    refine run_nil ?_
    refine St.keep (β' := [(2, _), (4, _)]) ⟨rfl, rfl, trivial⟩ ?_
    refine St.then_n ?_
    refine do_seq ?_
    refine do_region ?_
    refine run_read rfl (by decide) (fun _ => nofun) (rd_move rfl) ?_
    refine run_spec rfl (by decide) (by kernel_rfl) rfl (by repeat (first | exact Pick.nil | apply Pick.cons (by repeat (first | with_reducible exact Sel.head | apply Sel.tail)))) (refRdInt_spec _ (s := ⟨0, 0⟩) (Nat.zero_le _) hl) ?_
    rintro ⟨⟩ -
    rw [e1]
    dsimp only
    try simp only [List.cons_append, List.nil_append]
    refine run_read rfl (by decide) (fun _ => nofun) (rd_assign rfl) ?_
    refine run_nil ?_
    refine St.then_n ?_
    refine do_seq ?_
    refine do_region ?_
    refine run_read rfl (by decide) (fun _ => nofun) (rd_move rfl) ?_
    refine run_spec rfl (by decide) (by kernel_rfl) rfl (by repeat (first | exact Pick.nil | apply Pick.cons (by repeat (first | with_reducible exact Sel.head | apply Sel.tail)))) (refRdBytes_spec _ k1 hl) ?_
    rintro v1 -
    rw [e2]
    dsimp only
    refine St.vw vw_bytes .head (fun A1 c1 hv _ _ _ => ?_)
    subst hv
    try simp only [List.cons_append, List.nil_append]
    refine run_read rfl (by decide) (fun _ => nofun) (rd_assign rfl) ?_
    refine run_nil ?_
    refine St.keep (β' := [(2, _), (4, _), (5, _), (6, _)]) ⟨rfl, rfl, rfl, rfl, trivial⟩ ?_
    refine St.then_n ?_
    refine do_seq ?_
    refine do_region ?_
    refine run_read rfl (by decide) (fun _ => nofun) (rd_move rfl) ?_
    refine run_spec rfl (by decide) (by kernel_rfl) rfl (by repeat (first | exact Pick.nil | apply Pick.cons (by repeat (first | with_reducible exact Sel.head | apply Sel.tail)))) (refRdEnd_spec _) ?_
    rintro ⟨⟩ -
    try simp only [List.cons_append, List.nil_append]
    refine run_read rfl (by decide) (fun _ => nofun) (rd_assign rfl) ?_
    refine run_nil ?_
    refine St.then_n ?_
    refine do_seq ?_
    refine do_seq ?_
    refine do_region ?_
    refine run_read rfl (by decide) (fun _ => nofun) (rd_move rfl) ?_
    refine run_read rfl (by decide) (fun _ => nofun) (rd_ne rfl rfl) ?_
    refine run_nil ?_
    refine St.keep (β' := [(2, _), (5, _), (6, _), (7, _), (23, _)]) ⟨rfl, rfl, rfl, rfl, rfl, trivial⟩ ?_
    refine St.then_n ?_
    first | refine do_condp rfl (fun h23 => ?_) (fun h23 => ?_) | refine do_cond rfl (fun h23 => ?_) (fun h23 => ?_)
    · refine do_seq ?_
      refine do_region ?_
      refine run_read rfl (by decide) (fun _ => nofun) (rd_buildM (l := []) (vs := [_, _, _, _, _, _, _, _, _, _, _, _, _, _, _, _, _, _]) zero30 plc30 rfl rfl) ?_
      refine run_read rfl (by decide) (fun _ => nofun) (rd_move rfl) ?_
      first | refine run_store_all rfl rfl rfl (by repeat (first | with_reducible exact Sel.head | apply Sel.tail)) row30 rfl rfl rfl ?_ | refine run_store_mid rfl rfl rfl (by repeat (first | with_reducible exact Sel.head | apply Sel.tail)) row30 rfl rfl rfl (by simp only [setL, List.length_cons, List.length_nil, Nat.reduceAdd, List.take_succ_cons, List.take_zero, List.drop_succ_cons, List.drop_zero, List.cons_append, List.nil_append, List.append_nil]; exact rfl) ?_
      refine run_read rfl (by decide) (fun _ => nofun) (rd_assign rfl) ?_
      refine run_nil ?_
      refine St.keep (β' := [(2, _), (3, _)]) ⟨rfl, rfl, trivial⟩ ?_
      refine St.then_n ?_
      refine do_ret ?_
      refine St.then_r ?_
      refine do_ret2 Try.results44 (res_cell_row (vs := [_, _, _, _, _, _, _, _, _, _, _, _, _, _, _, _, _, _]) rfl row30 rfl (cells_pts (by repeat (first | with_reducible exact Sel.head | apply Sel.tail)) rfl)) (res_tmp rfl) ?_
      intro w hw
      have hlong : ¬ 65536 < B.length := by omega
      rw [if_neg hlong, if_pos h23]
      exact ⟨noAsk, rfl, rfl, Holds.own_nil (hw.sub (by repeat (first | exact Pick.nil | apply Pick.cons (by repeat (first | with_reducible exact Sel.head | apply Sel.tail)))))⟩
    · refine do_skip ?_
      refine St.then_n ?_
      refine do_seq ?_
      refine do_region ?_
      refine run_read rfl (by decide) (fun _ => nofun) (rd_move rfl) ?_
      refine run_spec rfl (by decide) (by kernel_rfl) rfl (by repeat (first | exact Pick.nil | apply Pick.cons (by repeat (first | with_reducible exact Sel.head | apply Sel.tail)))) (ref13Parse_spec _ _ b (Vw.sep vw_bytes (by repeat (first | with_reducible exact Sel.head | apply Sel.tail))) (by omega)) ?_
      rintro x hx
      rw [e3] at hx ⊢
      dsimp only at hx ⊢
      obtain ⟨kind, op, id, name, n, why, slot, epoch, at_, last, A2, c2, data⟩ := x
      simp only [GCmd.L, GCmd.v]
      try simp only [List.cons_append, List.nil_append]
      refine run_read rfl (by decide) (fun _ => nofun) (rd_move rfl) ?_
      refine run_read rfl (by decide) (fun _ => nofun) (rd_extract rfl rfl) ?_
      refine run_read rfl (by decide) (fun _ => nofun) (rd_extract rfl rfl) ?_
      refine run_alloc rfl (by decide) zero28 (fun b8 => ?_)
      first | refine run_store_all rfl rfl rfl (by repeat (first | with_reducible exact Sel.head | apply Sel.tail)) row28 rfl rfl rfl ?_ | refine run_store_mid rfl rfl rfl (by repeat (first | with_reducible exact Sel.head | apply Sel.tail)) row28 rfl rfl rfl (by simp only [setL, List.length_cons, List.length_nil, Nat.reduceAdd, List.take_succ_cons, List.take_zero, List.drop_succ_cons, List.drop_zero, List.cons_append, List.nil_append, List.append_nil]; exact rfl) ?_
      refine run_read rfl (by decide) (fun _ => nofun) (rd_assign rfl) ?_
      refine run_nil ?_
      refine St.keep (β' := [(2, _), (5, _), (8, _), (9, _)]) ⟨rfl, rfl, rfl, rfl, trivial⟩ ?_
      refine St.then_n ?_
      refine do_seq ?_
      refine do_seq ?_
      refine do_region ?_
      refine run_read rfl (by decide) (fun _ => nofun) (rd_move rfl) ?_
      refine run_read rfl (by decide) (fun _ => nofun) (rd_ne rfl rfl) ?_
      refine run_nil ?_
      refine St.then_n ?_
      first | refine do_condp rfl (fun h32 => ?_) (fun h32 => ?_) | refine do_cond rfl (fun h32 => ?_) (fun h32 => ?_)
      · refine do_seq ?_
        refine do_region ?_
        refine run_read rfl (by decide) (fun _ => nofun) (rd_buildM (l := []) (vs := [_, _, _, _, _, _, _, _, _, _, _, _, _, _, _, _, _, _]) zero30 plc30 rfl rfl) ?_
        refine run_read rfl (by decide) (fun _ => nofun) (rd_move rfl) ?_
        first | refine run_store_all rfl rfl rfl (by repeat (first | with_reducible exact Sel.head | apply Sel.tail)) row30 rfl rfl rfl ?_ | refine run_store_mid rfl rfl rfl (by repeat (first | with_reducible exact Sel.head | apply Sel.tail)) row30 rfl rfl rfl (by simp only [setL, List.length_cons, List.length_nil, Nat.reduceAdd, List.take_succ_cons, List.take_zero, List.drop_succ_cons, List.drop_zero, List.cons_append, List.nil_append, List.append_nil]; exact rfl) ?_
        refine run_read rfl (by decide) (fun _ => nofun) (rd_assign rfl) ?_
        refine run_nil ?_
        refine St.keep (β' := [(2, _), (3, _)]) ⟨rfl, rfl, trivial⟩ ?_
        refine St.then_n ?_
        refine do_ret ?_
        refine St.then_r ?_
        refine do_ret2 Try.results44 (res_cell_row (vs := [_, _, _, _, _, _, _, _, _, _, _, _, _, _, _, _, _, _]) rfl row30 rfl (cells_pts (by repeat (first | with_reducible exact Sel.head | apply Sel.tail)) rfl)) (res_tmp rfl) ?_
        intro w hw
        have hlong : ¬ 65536 < B.length := by omega
        rw [if_neg hlong, if_neg h23, if_pos h32]
        exact ⟨noAsk, rfl, rfl, Holds.own_nil (hw.sub (by repeat (first | exact Pick.nil | apply Pick.cons (by repeat (first | with_reducible exact Sel.head | apply Sel.tail)))))⟩
      · refine do_skip ?_
        refine St.then_n ?_
        refine do_seq ?_
        refine do_seq ?_
        refine St.sel (P := pts b2 30 noAsk.L) (by repeat (first | exact Sel.head | apply Sel.tail)) ?_
        refine do_cut (fun z : Bool => z = decide (a < 0 ∨ 3 < a)) (fun z => [(2, .pointer (some ⟨b2, 0, none⟩)), (5, .int .i64 a), (8, .pointer (some ⟨b8, 0, none⟩)), (40, .bool z)]) (fun _ => [pts b8 28 (GCmd.L ⟨kind, op, id, name, n, why, slot, epoch, at_, last, A2, c2, data⟩), pts b2 30 noAsk.L, bytesO (.slice A2 data.length c2) data, F]) (fun K hK => ?_) ?_
        · by_cases hA : a < 0
          · refine do_region ?_
            refine run_read rfl (by decide) (fun _ => nofun) (rd_move rfl) ?_
            first | refine run_read rfl (by decide) (fun _ => nofun) ((rd_lt rfl rfl).eq (show _ = Value.bool true by simp; omega)) ?_ | refine run_read rfl (by decide) (fun _ => nofun) ((rd_lt rfl rfl).eq (show _ = Value.bool false by simp; omega)) ?_
            refine run_read rfl (by decide) (fun _ => nofun) (rd_move rfl) ?_
            first | (refine run_skip rfl rfl ?_) | (refine run_read rfl (by decide) (fun _ => nofun) (rd_move rfl) ?_)
            first | (refine run_skip rfl rfl ?_) | (refine run_read rfl (by decide) (fun _ => nofun) (rd_gt rfl rfl) ?_)
            first | refine run_read rfl (by decide) (fun _ => nofun) (rd_pick_t rfl rfl) ?_ | refine run_read rfl (by decide) (fun _ => nofun) (rd_pick_f rfl rfl) ?_
            refine run_nil ?_
            refine St.keep (β' := [(2, _), (5, _), (8, _), (40, _)]) ⟨rfl, rfl, rfl, rfl, trivial⟩ ?_
            refine St.then_n ?_
            exact (St.sub (by repeat (first | exact Pick.nil | apply Pick.cons (by repeat (first | with_reducible exact Sel.head | apply Sel.tail)))) (St.keep (β' := [(2, _), (5, _), (8, _), (40, _)]) ⟨rfl, rfl, rfl, rfl, trivial⟩ (hK _ (by first | exact (decide_eq_true (by omega)).symm | exact decide_eq_decide.2 (by omega)))))
          · refine do_region ?_
            refine run_read rfl (by decide) (fun _ => nofun) (rd_move rfl) ?_
            first | refine run_read rfl (by decide) (fun _ => nofun) ((rd_lt rfl rfl).eq (show _ = Value.bool true by simp; omega)) ?_ | refine run_read rfl (by decide) (fun _ => nofun) ((rd_lt rfl rfl).eq (show _ = Value.bool false by simp; omega)) ?_
            refine run_read rfl (by decide) (fun _ => nofun) (rd_move rfl) ?_
            first | (refine run_skip rfl rfl ?_) | (refine run_read rfl (by decide) (fun _ => nofun) (rd_move rfl) ?_)
            first | (refine run_skip rfl rfl ?_) | (refine run_read rfl (by decide) (fun _ => nofun) (rd_gt rfl rfl) ?_)
            first | refine run_read rfl (by decide) (fun _ => nofun) (rd_pick_t rfl rfl) ?_ | refine run_read rfl (by decide) (fun _ => nofun) (rd_pick_f rfl rfl) ?_
            refine run_nil ?_
            refine St.keep (β' := [(2, _), (5, _), (8, _), (40, _)]) ⟨rfl, rfl, rfl, rfl, trivial⟩ ?_
            refine St.then_n ?_
            exact (St.sub (by repeat (first | exact Pick.nil | apply Pick.cons (by repeat (first | with_reducible exact Sel.head | apply Sel.tail)))) (St.keep (β' := [(2, _), (5, _), (8, _), (40, _)]) ⟨rfl, rfl, rfl, rfl, trivial⟩ (hK _ (by first | exact (decide_eq_true (by omega)).symm | exact decide_eq_decide.2 (by omega)))))
        rintro z hz
        first | refine do_condp rfl (fun h40 => ?_) (fun h40 => ?_) | refine do_cond rfl (fun h40 => ?_) (fun h40 => ?_)
        · refine do_seq ?_
          refine do_region ?_
          refine run_read rfl (by decide) (fun _ => nofun) (rd_buildM (l := []) (vs := [_, _, _, _, _, _, _, _, _, _, _, _, _, _, _, _, _, _]) zero30 plc30 rfl rfl) ?_
          first | refine run_store_all rfl rfl rfl (by repeat (first | with_reducible exact Sel.head | apply Sel.tail)) row30 rfl rfl rfl ?_ | refine run_store_mid rfl rfl rfl (by repeat (first | with_reducible exact Sel.head | apply Sel.tail)) row30 rfl rfl rfl (by simp only [setL, List.length_cons, List.length_nil, Nat.reduceAdd, List.take_succ_cons, List.take_zero, List.drop_succ_cons, List.drop_zero, List.cons_append, List.nil_append, List.append_nil]; exact rfl) ?_
          refine run_read rfl (by decide) (fun _ => nofun) (rd_assign rfl) ?_
          refine run_nil ?_
          refine St.keep (β' := [(2, _), (3, _)]) ⟨rfl, rfl, trivial⟩ ?_
          refine St.then_n ?_
          refine do_ret ?_
          refine St.then_r ?_
          refine do_ret2 Try.results44 (res_cell_row (vs := [_, _, _, _, _, _, _, _, _, _, _, _, _, _, _, _, _, _]) rfl row30 rfl (cells_pts (by repeat (first | with_reducible exact Sel.head | apply Sel.tail)) rfl)) (res_tmp rfl) ?_
          intro w hw
          have hlong : ¬ 65536 < B.length := by omega
          rw [if_neg hlong, if_neg h23, if_neg h32, if_pos (of_decide_eq_true (hz.symm.trans h40))]
          exact ⟨noAsk, rfl, rfl, Holds.own_nil (hw.sub (by repeat (first | exact Pick.nil | apply Pick.cons (by repeat (first | with_reducible exact Sel.head | apply Sel.tail)))))⟩
        · refine do_skip ?_
          refine St.then_n ?_
          refine do_seq ?_
          refine do_region ?_
          refine run_read rfl (by decide) (fun _ => nofun) (rd_move rfl) ?_
          refine run_read rfl (by decide) (fun _ => nofun) (rd_load_row (vs := [_, _, _, _, _, _, _, _, _, _, _, _, _, _, _, _, _]) rfl row28 rfl (cells_pts (by repeat (first | with_reducible exact Sel.head | apply Sel.tail)) rfl)) ?_
          refine run_read rfl (by decide) (fun _ => nofun) (rd_buildM (l := [(0, (Operand.tmp 42)), (1, (Operand.tmp 43))]) (vs := [_, _, _, _, _, _, _, _, _, _, _, _, _, _, _, _, _, _]) zero30 plc30 rfl rfl) ?_
          first | refine run_store_all rfl rfl rfl (by repeat (first | with_reducible exact Sel.head | apply Sel.tail)) row30 rfl rfl rfl ?_ | refine run_store_mid rfl rfl rfl (by repeat (first | with_reducible exact Sel.head | apply Sel.tail)) row30 rfl rfl rfl (by simp only [setL, List.length_cons, List.length_nil, Nat.reduceAdd, List.take_succ_cons, List.take_zero, List.drop_succ_cons, List.drop_zero, List.cons_append, List.nil_append, List.append_nil]; exact rfl) ?_
          refine run_read rfl (by decide) (fun _ => nofun) (rd_assign rfl) ?_
          refine run_nil ?_
          refine St.keep (β' := [(2, _), (3, _)]) ⟨rfl, rfl, trivial⟩ ?_
          refine St.then_n ?_
          refine do_ret ?_
          refine do_ret2 Try.results44 (res_cell_row (vs := [_, _, _, _, _, _, _, _, _, _, _, _, _, _, _, _, _, _]) rfl row30 rfl (cells_pts (by repeat (first | with_reducible exact Sel.head | apply Sel.tail)) rfl)) (res_tmp rfl) ?_
          intro w hw
          have hlong : ¬ 65536 < B.length := by omega
          rw [if_neg hlong, if_neg h23, if_neg h32, if_neg (of_decide_eq_false (hz.symm.trans h40))]
          exact ⟨⟨a, ⟨kind, op, id, name, n, why, slot, epoch, at_, last, A2, c2, data⟩⟩, by rw [← hx]; rfl, rfl, hw.sub (by repeat (first | exact Pick.nil | apply Pick.cons (by repeat (first | with_reducible exact Sel.head | apply Sel.tail))))⟩
set_option maxRecDepth 4000 in
set_option maxHeartbeats 1000000 in
theorem ref15GetResult_spec (F : HP) (v : Value) (B : List UInt8) (hF : VwB F v B) (hl : B.length ≤ 140737488355328) :
    Spec Try.prog 46 [v] [] F (fun x : GRes => x.plain = (parseR B).1) (fun x => .tuple #[.agg x.L.toArray, .int .i64 (parseR B).2]) (fun x => [bytesO x.v x.data, rowsO x.reply]) := by
  intro ω w hh
  refine enter Try.func46 rfl Try.ntmps46 rfl hh ?_
  simp only [List.nil_append, argsB]
  refine St.vw hF .head (fun A c hv _ _ _ => ?_)
  subst hv
  obtain ⟨⟨a, s1⟩, e1⟩ : ∃ q, rI B ⟨0, 0⟩ = q := ⟨_, rfl⟩
  have k1 : s1.at_ ≤ B.length := by have := rI_ok (B := B) (s := ⟨0, 0⟩) (Nat.zero_le _); rw [e1] at this; exact this
  obtain ⟨⟨t, s2⟩, e2⟩ : ∃ q, rT B s1 = q := ⟨_, rfl⟩
  have k2 : s2.at_ ≤ B.length := by have := rT_ok k1; rw [e2] at this; exact this
  obtain ⟨⟨⟨pw, pa, rows⟩, s3⟩, e3⟩ : ∃ q, rReply B s2 = q := ⟨_, rfl⟩
  have k3 : s3.at_ ≤ B.length := by have := rReply_ok k2; rw [e3] at this; exact this
  obtain ⟨⟨d, s4⟩, e4⟩ : ∃ q, rB B s3 = q := ⟨_, rfl⟩
  have k4 : s4.at_ ≤ B.length := by have := rB_ok k3; rw [e4] at this; exact this
  have hop : pRes B = (⟨a, t, ⟨pw, pa, none, 0, rows⟩, none, 0, d⟩, s4) := by simp only [pRes, e1, e2, e3, e4]
  unfold parseR
  rw [hop]
  dsimp only
  refine do_seq ?_
  refine do_region ?_
  refine run_alloc rfl (by decide) zero35 (fun b2 => ?_)
  refine run_read rfl (by decide) (fun _ => nofun) (rd_assign rfl) ?_
  refine run_nil ?_
  refine St.then_n ?_
  refine do_seq ?_
  refine do_seq ?_
  refine do_region ?_
  refine run_read rfl (by decide) (fun _ => nofun) (rd_move rfl) ?_
  refine run_read rfl (by decide) (fun _ => nofun) (rd_len Try.underlying26 rfl) ?_
  refine run_read rfl (by decide) (fun _ => nofun) (rd_gt rfl rfl) ?_
  refine run_nil ?_
  refine St.then_n ?_
  first | refine do_condp rfl (fun h9 => ?_) (fun h9 => ?_) | refine do_cond rfl (fun h9 => ?_) (fun h9 => ?_)
  · refine do_seq ?_
    refine do_region ?_
    refine run_read rfl (by decide) (fun _ => nofun) (rd_buildM (l := []) (vs := [_, _, _, _, _, _]) zero35 plc35 rfl rfl) ?_
    first | refine run_store_all rfl rfl rfl (by repeat (first | with_reducible exact Sel.head | apply Sel.tail)) row35 rfl rfl rfl ?_ | refine run_store_mid rfl rfl rfl (by repeat (first | with_reducible exact Sel.head | apply Sel.tail)) row35 rfl rfl rfl (by simp only [setL, List.length_cons, List.length_nil, Nat.reduceAdd, List.take_succ_cons, List.take_zero, List.drop_succ_cons, List.drop_zero, List.cons_append, List.nil_append, List.append_nil]; exact rfl) ?_
    refine run_read rfl (by decide) (fun _ => nofun) (rd_assign rfl) ?_
    refine run_nil ?_
    refine St.keep (β' := [(2, _), (3, _)]) ⟨rfl, rfl, trivial⟩ ?_
    refine St.then_n ?_
    refine do_ret ?_
    refine St.then_r ?_
    refine do_ret2 Try.results46 (res_cell_row (vs := [_, _, _, _, _, _]) rfl row35 rfl (cells_pts (by repeat (first | with_reducible exact Sel.head | apply Sel.tail)) rfl)) (res_tmp rfl) ?_
    intro w hw
    have hlong : 1048576 < B.length := by omega
    rw [if_pos hlong]
    exact ⟨noRes, rfl, rfl, Holds.own_nil (Holds.own_nil (hw.sub (by repeat (first | exact Pick.nil | apply Pick.cons (by repeat (first | with_reducible exact Sel.head | apply Sel.tail))))))⟩
  · refine do_skip ?_
    refine St.then_n ?_
    refine do_seq ?_
    refine do_region ?_
    refine run_read rfl (by decide) (fun _ => nofun) (rd_move rfl) ?_
    refine run_spec rfl (by decide) (by kernel_rfl) rfl (by repeat (first | exact Pick.nil | apply Pick.cons (by repeat (first | with_reducible exact Sel.head | apply Sel.tail)))) (refOf_spec _ _ _ (by first | with_reducible exact vwb_nil _ | exact Vw.sep hF (by repeat (first | with_reducible exact Sel.head | apply Sel.tail)) | exact Vw.sep hG (by repeat (first | with_reducible exact Sel.head | apply Sel.tail)) | exact Vw.sep vw_bytes (by repeat (first | with_reducible exact Sel.head | apply Sel.tail))) hl) ?_
    rintro r -
    try simp only [List.cons_append, List.nil_append]
    refine run_read rfl (by decide) (fun _ => nofun) (rd_assign rfl) ?_
    refine run_nil ?_
    refine St.keep (β' := [(2, _), (4, _)]) ⟨rfl, rfl, trivial⟩ ?_
    refine St.then_n ?_
    refine do_seq ?_
    refine do_region ?_
    refine run_alloc rfl (by decide) zero35 (fun b5 => ?_)
    refine run_nil ?_
    refine St.then_n ?_
    refine do_seq ?_
    refine do_region ?_
    refine run_read rfl (by decide) (fun _ => nofun) (rd_move rfl) ?_
    refine run_spec rfl (by decide) (by kernel_rfl) rfl (by repeat (first | exact Pick.nil | apply Pick.cons (by repeat (first | with_reducible exact Sel.head | apply Sel.tail)))) (refRdInt_spec _ (s := ⟨0, 0⟩) (Nat.zero_le _) hl) ?_
    rintro ⟨⟩ -
    rw [e1]
    dsimp only
    try simp only [List.cons_append, List.nil_append]
    first | refine run_read rfl (by decide) (fun _ => nofun) (rd_fieldAddr0 rfl fld35_0) ?_ | refine run_read rfl (by decide) (fun _ => nofun) (rd_fieldAddr rfl fld35_0) ?_
    refine run_store rfl rfl rfl (by repeat (first | with_reducible exact Sel.head | apply Sel.tail)) row25 rfl rfl (by simp only [List.set_cons_succ, List.set_cons_zero]; exact rfl) ?_
    refine run_nil ?_
    refine St.then_n ?_
    refine do_seq ?_
    refine do_region ?_
    refine run_read rfl (by decide) (fun _ => nofun) (rd_move rfl) ?_
    refine run_spec rfl (by decide) (by kernel_rfl) rfl (by repeat (first | exact Pick.nil | apply Pick.cons (by repeat (first | with_reducible exact Sel.head | apply Sel.tail)))) (refRdBool_spec _ k1 hl) ?_
    rintro ⟨⟩ -
    rw [e2]
    dsimp only
    try simp only [List.cons_append, List.nil_append]
    first | refine run_read rfl (by decide) (fun _ => nofun) (rd_fieldAddr0 rfl fld35_1) ?_ | refine run_read rfl (by decide) (fun _ => nofun) (rd_fieldAddr rfl fld35_1) ?_
    refine run_store rfl rfl rfl (by repeat (first | with_reducible exact Sel.head | apply Sel.tail)) row4 rfl rfl (by simp only [List.set_cons_succ, List.set_cons_zero]; exact rfl) ?_
    refine run_nil ?_
    refine St.keep (β' := [(2, _), (4, _), (5, _)]) ⟨rfl, rfl, rfl, trivial⟩ ?_
    refine St.then_n ?_
    refine do_seq ?_
    refine do_region ?_
    refine run_read rfl (by decide) (fun _ => nofun) (rd_move rfl) ?_
    refine run_spec rfl (by decide) (by kernel_rfl) rfl (by repeat (first | exact Pick.nil | apply Pick.cons (by repeat (first | with_reducible exact Sel.head | apply Sel.tail)))) (refGetReply_spec _ k2 hl) ?_
    rintro ⟨A2, c2⟩ -
    rw [e3]
    dsimp only
    try simp only [List.cons_append, List.nil_append]
    first | refine run_read rfl (by decide) (fun _ => nofun) (rd_fieldAddr0 rfl fld35_2) ?_ | refine run_read rfl (by decide) (fun _ => nofun) (rd_fieldAddr rfl fld35_2) ?_
    first | refine run_store_all rfl rfl rfl (by repeat (first | with_reducible exact Sel.head | apply Sel.tail)) row33 rfl rfl rfl ?_ | refine run_store_mid rfl rfl rfl (by repeat (first | with_reducible exact Sel.head | apply Sel.tail)) row33 rfl rfl rfl (by simp only [setL, List.length_cons, List.length_nil, Nat.reduceAdd, List.take_succ_cons, List.take_zero, List.drop_succ_cons, List.drop_zero, List.cons_append, List.nil_append, List.append_nil]; exact rfl) ?_
    refine run_nil ?_
    refine St.then_n ?_
    refine do_seq ?_
    refine do_region ?_
    refine run_read rfl (by decide) (fun _ => nofun) (rd_move rfl) ?_
    refine run_spec rfl (by decide) (by kernel_rfl) rfl (by repeat (first | exact Pick.nil | apply Pick.cons (by repeat (first | with_reducible exact Sel.head | apply Sel.tail)))) (refRdBytes_spec _ k3 hl) ?_
    rintro v1 -
    rw [e4]
    dsimp only
    refine St.vw vw_bytes .head (fun A1 c1 hv _ _ _ => ?_)
    subst hv
    try simp only [List.cons_append, List.nil_append]
    first | refine run_read rfl (by decide) (fun _ => nofun) (rd_fieldAddr0 rfl fld35_3) ?_ | refine run_read rfl (by decide) (fun _ => nofun) (rd_fieldAddr rfl fld35_3) ?_
    refine run_store rfl rfl rfl (by repeat (first | with_reducible exact Sel.head | apply Sel.tail)) row26 rfl rfl (by simp only [List.set_cons_succ, List.set_cons_zero]; exact rfl) ?_
    refine run_nil ?_
    refine St.keep (β' := [(2, _), (4, _), (5, _)]) ⟨rfl, rfl, rfl, trivial⟩ ?_
    refine St.then_n ?_
    refine do_seq ?_
    refine do_region ?_
    refine run_read rfl (by decide) (fun _ => nofun) (rd_move rfl) ?_
    refine run_spec rfl (by decide) (by kernel_rfl) rfl (by repeat (first | exact Pick.nil | apply Pick.cons (by repeat (first | with_reducible exact Sel.head | apply Sel.tail)))) (refRdEnd_spec _) ?_
    rintro ⟨⟩ -
    try simp only [List.cons_append, List.nil_append]
    refine run_read rfl (by decide) (fun _ => nofun) (rd_assign rfl) ?_
    refine run_nil ?_
    refine St.then_n ?_
    refine do_seq ?_
    refine do_seq ?_
    refine do_region ?_
    refine run_read rfl (by decide) (fun _ => nofun) (rd_move rfl) ?_
    refine run_read rfl (by decide) (fun _ => nofun) (rd_ne rfl rfl) ?_
    refine run_nil ?_
    refine St.keep (β' := [(2, _), (5, _), (6, _), (28, _)]) ⟨rfl, rfl, rfl, rfl, trivial⟩ ?_
    refine St.then_n ?_
    first | refine do_condp rfl (fun h28 => ?_) (fun h28 => ?_) | refine do_cond rfl (fun h28 => ?_) (fun h28 => ?_)
    · refine do_seq ?_
      refine do_region ?_
      refine run_read rfl (by decide) (fun _ => nofun) (rd_buildM (l := []) (vs := [_, _, _, _, _, _]) zero35 plc35 rfl rfl) ?_
      refine run_read rfl (by decide) (fun _ => nofun) (rd_move rfl) ?_
      first | refine run_store_all rfl rfl rfl (by repeat (first | with_reducible exact Sel.head | apply Sel.tail)) row35 rfl rfl rfl ?_ | refine run_store_mid rfl rfl rfl (by repeat (first | with_reducible exact Sel.head | apply Sel.tail)) row35 rfl rfl rfl (by simp only [setL, List.length_cons, List.length_nil, Nat.reduceAdd, List.take_succ_cons, List.take_zero, List.drop_succ_cons, List.drop_zero, List.cons_append, List.nil_append, List.append_nil]; exact rfl) ?_
      refine run_read rfl (by decide) (fun _ => nofun) (rd_assign rfl) ?_
      refine run_nil ?_
      refine St.keep (β' := [(2, _), (3, _)]) ⟨rfl, rfl, trivial⟩ ?_
      refine St.then_n ?_
      refine do_ret ?_
      refine St.then_r ?_
      refine do_ret2 Try.results46 (res_cell_row (vs := [_, _, _, _, _, _]) rfl row35 rfl (cells_pts (by repeat (first | with_reducible exact Sel.head | apply Sel.tail)) rfl)) (res_tmp rfl) ?_
      intro w hw
      have hlong : ¬ 1048576 < B.length := by omega
      rw [if_neg hlong, if_pos h28]
      exact ⟨noRes, rfl, rfl, Holds.own_nil (Holds.own_nil (hw.sub (by repeat (first | exact Pick.nil | apply Pick.cons (by repeat (first | with_reducible exact Sel.head | apply Sel.tail))))))⟩
    · refine do_skip ?_
      refine St.then_n ?_
      refine do_seq ?_
      refine do_region ?_
      refine run_read rfl (by decide) (fun _ => nofun) (rd_load_row (vs := [_, _, _, _, _, _]) rfl row35 rfl (cells_pts (by repeat (first | with_reducible exact Sel.head | apply Sel.tail)) rfl)) ?_
      first | refine run_store_all rfl rfl rfl (by repeat (first | with_reducible exact Sel.head | apply Sel.tail)) row35 rfl rfl rfl ?_ | refine run_store_mid rfl rfl rfl (by repeat (first | with_reducible exact Sel.head | apply Sel.tail)) row35 rfl rfl rfl (by simp only [setL, List.length_cons, List.length_nil, Nat.reduceAdd, List.take_succ_cons, List.take_zero, List.drop_succ_cons, List.drop_zero, List.cons_append, List.nil_append, List.append_nil]; exact rfl) ?_
      refine run_read rfl (by decide) (fun _ => nofun) (rd_assign rfl) ?_
      refine run_nil ?_
      refine St.keep (β' := [(2, _), (3, _)]) ⟨rfl, rfl, trivial⟩ ?_
      refine St.then_n ?_
      refine do_ret ?_
      refine do_ret2 Try.results46 (res_cell_row (vs := [_, _, _, _, _, _]) rfl row35 rfl (cells_pts (by repeat (first | with_reducible exact Sel.head | apply Sel.tail)) rfl)) (res_tmp rfl) ?_
      intro w hw
      have hlong : ¬ 1048576 < B.length := by omega
      rw [if_neg hlong, if_neg h28]
      exact ⟨⟨a, t, ⟨pw, pa, A2, c2, rows⟩, A1, c1, d⟩, rfl, rfl, hw.sub (by repeat (first | exact Pick.nil | apply Pick.cons (by repeat (first | with_reducible exact Sel.head | apply Sel.tail))))⟩
end Go.Proofs.Ytglcmlicfmmlpaa
