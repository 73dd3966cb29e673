/-
  The reference's auditor: Asks, Rows, Told.
-/
import Derived.Test.YtglcmlicfmmlpaaA18
namespace Go.Proofs.Ytglcmlicfmmlpaa
open Go.RowKit
set_option linter.unusedSimpArgs false
set_option linter.unusedVariables false

set_option maxHeartbeats 2000000 in
theorem refAsks_spec (F : HP) (r : Nat) (s : AuS) (n ph : Int) (hs : s.L.length ≤ 3) : Spec Try.prog 53 [.pointer (some ⟨r, 0, none⟩), .int .i64 n, .int .i64 ph] [raO r s] F (fun _ : Value => True) (fun v => v)
    (fun v => [ownQ GAsk.L 30 18 v (askAll s n ph).length (askAll s n ph), raO r (knowS s n ph)]) := by
  intro ω w hh
  refine enter Try.func53 rfl Try.ntmps53 rfl hh ?_
  simp only [List.cons_append, List.nil_append, argsB]
  obtain ⟨kk, hkk⟩ : ∃ kk, kindP ph = kk := ⟨_, rfl⟩
  unfold askAll
  rw [hkk]
  have hkl := knowS_len s n ph
  obtain ⟨s1, hs1⟩ : ∃ s1, knowS s n ph = s1 := ⟨_, rfl⟩
  rw [hs1] at hkl ⊢
  have ei : ∀ {i : Int} {k : Nat}, i = k → Value.int .i64 i = .int .i64 (k : Int) := fun h => by rw [h]
  refine sr ?_
  refine rr (rd_assign rfl) ?_
  refine nx ?_
  refine sr ?_
  refine rr (rd_move rfl) ?_
  refine rr (rd_move rfl) ?_
  refine rr (rd_move rfl) ?_
  refine rc (hs := refKnow_spec _ r s n ph hs) (k := ?_)
  rintro ⟨⟩ -
  rw [hs1]
  simp only [List.cons_append, List.nil_append]
  refine St.ra_open fun g1 g2 N hN => ?_
  obtain ⟨sn, sp, sa, L⟩ := s1
  dsimp only at hkl hN ⊢
  simp only [raG, List.cons_append, List.nil_append]
  try simp only [List.cons_append, List.nil_append]
  refine run_nil ?_
  refine St.kp [(0, _), (1, _), (2, _)] ?_
  refine St.then_n ?_
  refine sr ?_
  refine rr (rd_assign rfl) ?_
  refine nx ?_
  refine do_seq ?_
  refine sr ?_
  refine rr (rd_assign rfl) ?_
  refine nx ?_
  refine do_block ?_
  refine St.nilQ (f := GAsk.L) (T := 30) (k := 18) ?_
  refine do_lp (fun y : Nat × Value => y.1 ≤ N ∧ (0 < kk ∨ y.1 = 0)) (fun y => [(0, .pointer (some ⟨r, 0, none⟩)), (1, .int .i64 n), (2, .int .i64 ph), (7, y.2), (8, .int .i64 y.1)]) (fun y => [ownQ GAsk.L 30 18 y.2 (askL kk n 0 (L.take y.1)).length (askL kk n 0 (L.take y.1)), pts r 164 [.int .i64 sn, .int .i64 sp, .slice (some ⟨g1, 0, none⟩) N N, .bool sa, .slice (some ⟨g2, 0, none⟩) N N], ownQ isC 4 1 (.slice (some ⟨g1, 0, none⟩) N N) N L, ownQ slC 31 1 (.slice (some ⟨g2, 0, none⟩) N N) N L, rowsAll L, F]) (fun y => N - y.1) (0, .slice none 0 0) ⟨Nat.zero_le _, .inr rfl⟩ ?_ (hΓ := .cons .head (by repeat (first | exact Pick.nil | apply Pick.cons (by repeat (first | with_reducible exact Sel.head | apply Sel.tail)))))
  rintro ⟨i, v7⟩ ⟨hi, hi0⟩
  dsimp only at hi hi0 ⊢
  refine do_seq ?_
  refine do_seq ?_
  refine do_cut (fun z : Bool => z = decide (i < N ∧ 0 < kk)) (fun z => [(0, .pointer (some ⟨r, 0, none⟩)), (1, .int .i64 n), (2, .int .i64 ph), (7, v7), (8, .int .i64 i), (24, .bool z)]) (fun _ => [ownQ GAsk.L 30 18 v7 (askL kk n 0 (L.take i)).length (askL kk n 0 (L.take i)), pts r 164 [.int .i64 sn, .int .i64 sp, .slice (some ⟨g1, 0, none⟩) N N, .bool sa, .slice (some ⟨g2, 0, none⟩) N N], ownQ isC 4 1 (.slice (some ⟨g1, 0, none⟩) N N) N L, ownQ slC 31 1 (.slice (some ⟨g2, 0, none⟩) N N) N L, rowsAll L, F]) (fun K hK => ?_) ?_
  · rcases (show ¬ i < N ∨ (i < N ∧ 0 < kk) ∨ (i < N ∧ ¬ 0 < kk) by omega) with hA | hA | hA
    · refine do_region ?_
      refine rr (rd_move rfl) ?_
      refine rr (rd_move rfl) ?_
      refine rr (rd_nilCheck rfl) ?_
      refine rr (rd_fa rfl fld164_2) ?_
      refine rr (rd_ld rfl row88) ?_
      refine rr (rd_len Try.underlying88 rfl) ?_
      first | refine rr ((rd_lt rfl rfl).eq (congrArg Value.bool (decide_eq_true (by omega)))) ?_ | refine rr ((rd_lt rfl rfl).eq (congrArg Value.bool (decide_eq_false (by omega)))) ?_
      refine rr (rd_move rfl) ?_
      first | refine sk ?_ | (refine rr (rd_move rfl) ?_)
      first
        | refine sk ?_
        | (refine rc (hs := refKind_spec _ ph) (k := ?_)
           rintro ⟨⟩ -
           rw [hkk]
           try simp only [List.cons_append, List.nil_append])
      first | refine sk ?_ | (first | refine rr ((rd_gt rfl rfl).eq (congrArg Value.bool (decide_eq_true (by omega)))) ?_ | refine rr ((rd_gt rfl rfl).eq (congrArg Value.bool (decide_eq_false (by omega)))) ?_)
      refine rr (rd_pick rfl rfl) ?_
      refine run_nil ?_
      refine St.kp [(0, _), (1, _), (2, _), (7, _), (8, _), (21, _), (22, _), (23, _), (24, _)] ?_
      refine St.then_n ?_
      exact St.sb (St.kq [(0, _), (1, _), (2, _), (7, _), (8, _), (24, _)] (h := hK _ (by first | exact (decide_eq_true (by omega)).symm | exact (decide_eq_false (by omega)).symm)))
    · refine do_region ?_
      refine rr (rd_move rfl) ?_
      refine rr (rd_move rfl) ?_
      refine rr (rd_nilCheck rfl) ?_
      refine rr (rd_fa rfl fld164_2) ?_
      refine rr (rd_ld rfl row88) ?_
      refine rr (rd_len Try.underlying88 rfl) ?_
      first | refine rr ((rd_lt rfl rfl).eq (congrArg Value.bool (decide_eq_true (by omega)))) ?_ | refine rr ((rd_lt rfl rfl).eq (congrArg Value.bool (decide_eq_false (by omega)))) ?_
      refine rr (rd_move rfl) ?_
      first | refine sk ?_ | (refine rr (rd_move rfl) ?_)
      first
        | refine sk ?_
        | (refine rc (hs := refKind_spec _ ph) (k := ?_)
           rintro ⟨⟩ -
           rw [hkk]
           try simp only [List.cons_append, List.nil_append])
      first | refine sk ?_ | (first | refine rr ((rd_gt rfl rfl).eq (congrArg Value.bool (decide_eq_true (by omega)))) ?_ | refine rr ((rd_gt rfl rfl).eq (congrArg Value.bool (decide_eq_false (by omega)))) ?_)
      refine rr (rd_pick rfl rfl) ?_
      refine run_nil ?_
      refine St.kp [(0, _), (1, _), (2, _), (7, _), (8, _), (21, _), (22, _), (23, _), (24, _)] ?_
      refine St.then_n ?_
      exact St.sb (St.kq [(0, _), (1, _), (2, _), (7, _), (8, _), (24, _)] (h := hK _ (by first | exact (decide_eq_true (by omega)).symm | exact (decide_eq_false (by omega)).symm)))
    · refine do_region ?_
      refine rr (rd_move rfl) ?_
      refine rr (rd_move rfl) ?_
      refine rr (rd_nilCheck rfl) ?_
      refine rr (rd_fa rfl fld164_2) ?_
      refine rr (rd_ld rfl row88) ?_
      refine rr (rd_len Try.underlying88 rfl) ?_
      first | refine rr ((rd_lt rfl rfl).eq (congrArg Value.bool (decide_eq_true (by omega)))) ?_ | refine rr ((rd_lt rfl rfl).eq (congrArg Value.bool (decide_eq_false (by omega)))) ?_
      refine rr (rd_move rfl) ?_
      first | refine sk ?_ | (refine rr (rd_move rfl) ?_)
      first
        | refine sk ?_
        | (refine rc (hs := refKind_spec _ ph) (k := ?_)
           rintro ⟨⟩ -
           rw [hkk]
           try simp only [List.cons_append, List.nil_append])
      first | refine sk ?_ | (first | refine rr ((rd_gt rfl rfl).eq (congrArg Value.bool (decide_eq_true (by omega)))) ?_ | refine rr ((rd_gt rfl rfl).eq (congrArg Value.bool (decide_eq_false (by omega)))) ?_)
      refine rr (rd_pick rfl rfl) ?_
      refine run_nil ?_
      refine St.kp [(0, _), (1, _), (2, _), (7, _), (8, _), (21, _), (22, _), (23, _), (24, _)] ?_
      refine St.then_n ?_
      exact St.sb (St.kq [(0, _), (1, _), (2, _), (7, _), (8, _), (24, _)] (h := hK _ (by first | exact (decide_eq_true (by omega)).symm | exact (decide_eq_false (by omega)).symm)))
  rintro z hz
  first | refine do_condp rfl (fun h24 => ?_) (fun h24 => ?_) | refine do_cond rfl (fun h24 => ?_) (fun h24 => ?_)
  · obtain ⟨hiN, hk0⟩ := of_decide_eq_true (hz.symm.trans h24)
    have hx := List.getElem?_eq_getElem (l := L) (i := i) (by omega)
    generalize L[i]'_ = x at hx
    have htk := take_get hx
    have hil : (L.take i).length = i := by rw [List.length_take]; omega
    have hll : (askL kk n 0 (L.take i)).length ≤ i := Nat.le_trans (askL_len _ _ _ _) (Nat.le_of_eq hil)
    have hstep : askL kk n 0 (L.take (i + 1)) = askL kk n 0 (L.take i) ++ askL kk n i [x] := by rw [htk, askL_app, hil, Nat.zero_add]
    refine do_skip ?_
    refine St.then_n ?_
    refine do_seq ?_
    refine do_block ?_
    refine sr ?_
    refine rr (rd_move rfl) ?_
    refine rr (rd_nilCheck rfl) ?_
    refine rr (rd_fa rfl fld164_2) ?_
    refine rr (rd_ld rfl row88) ?_
    refine rr (rd_move rfl) ?_
    refine rr (rd_indexAddr Try.underlying88 ei4 rfl rfl (by omega) (by omega)) ?_
    refine rr (rd_ld rfl row4 (cell_Q L i 0 x isC_len hx (by decide) rfl (by omega))) ?_
    refine rr (rd_not rfl) ?_
    refine run_nil ?_
    refine St.kp [(0, _), (1, _), (2, _), (7, _), (8, _), (34, _)] ?_
    refine St.then_n ?_
    first | refine do_condp rfl (fun h34 => ?_) (fun h34 => ?_) | refine do_cond rfl (fun h34 => ?_) (fun h34 => ?_)
    · have hb : x.is_ = false := by simpa using h34
      rw [show askL kk n i [x] = [askC (i + 1) kk n] by rw [askL, if_pos ⟨hk0, hb⟩]; rfl] at hstep
      refine do_region ?_
      refine rr (rd_move rfl) ?_
      refine rr (rd_move rfl) ?_
      refine rr (rd_addi rfl rfl) ?_
      refine rr (rd_move rfl) ?_
      refine rc (hs := refKind_spec _ ph) (k := ?_)
      rintro ⟨⟩ -
      rw [hkk]
      try simp only [List.cons_append, List.nil_append]
      refine rr (rd_move rfl) ?_
      refine rr (rd_bd [_, _, _, _, _, _, _, _, _, _, _, _, _, _, _, _, _] zero28 plc28) ?_
      refine rr (rd_bd [_, _, _, _, _, _, _, _, _, _, _, _, _, _, _, _, _, _] zero30 plc30) ?_
      refine run_buildSlice (l := [(Operand.tmp 42)]) rfl (by decide) Try.underlying43 ei30 rfl rfl (by decide) (by decide) (fun b43 => ?_)
      simp only [joinL, cells_agg, cells_int, cells_bcell, cells_bool, cells_string, cells_pointer, cells_slice, cells_map, cells_func, List.cons_append, List.nil_append, List.append_nil]
      refine r_apQ (f := GAsk.L) (n := (askL kk n 0 (L.take i)).length) (M := [askC (i + 1) kk n]) gask_len gask_one Try.underlying43 ei30 (X := pts b43 30 (GAsk.L (askC (i + 1) kk n))) (vw_pts (off := 0) (Nat.le_refl _) (by decide) rfl rfl) rfl (by omega) (by decide) (by omega) (fun v8 _ => ?_) (px := .head)
      rw [← hstep]
      refine rr (rd_assign rfl) ?_
      refine run_nil ?_
      refine St.kp [(0, _), (1, _), (2, _), (7, _), (8, _)] ?_
      refine St.blk_n ?_
      refine St.then_n ?_
      refine do_region ?_
      refine rr (rd_move rfl) ?_
      refine rr (rd_addi rfl rfl) ?_
      refine rr (rd_assign rfl) ?_
      refine nx ?_
      first
        | exact loop_bk (i + 1, v8) ⟨by dsimp only; omega, .inl hk0⟩ (hμ := by dsimp only; omega) (hΓ := by rw [show (askL kk n 0 (L.take (i + 1))).length = (askL kk n 0 (L.take i)).length + 1 by rw [hstep]; simp]; repeat (first | exact Pick.nil | apply Pick.cons (by repeat (first | with_reducible exact Sel.head | apply Sel.tail))))
        | exact loop_bk (i + 1, v7) ⟨by dsimp only; omega, .inl hk0⟩ (hμ := by dsimp only; omega) (hΓ := by rw [hstep]; repeat (first | exact Pick.nil | apply Pick.cons (by repeat (first | with_reducible exact Sel.head | apply Sel.tail))))
    · have hb : x.is_ = true := by simpa using h34
      rw [show askL kk n i [x] = [] by rw [askL, if_neg (fun h => by rw [hb] at h; cases h.2)]; rfl, List.append_nil] at hstep
      refine do_skip ?_
      refine St.blk_n ?_
      refine St.then_n ?_
      refine do_region ?_
      refine rr (rd_move rfl) ?_
      refine rr (rd_addi rfl rfl) ?_
      refine rr (rd_assign rfl) ?_
      refine nx ?_
      first
        | exact loop_bk (i + 1, v8) ⟨by dsimp only; omega, .inl hk0⟩ (hμ := by dsimp only; omega) (hΓ := by rw [show (askL kk n 0 (L.take (i + 1))).length = (askL kk n 0 (L.take i)).length + 1 by rw [hstep]; simp]; repeat (first | exact Pick.nil | apply Pick.cons (by repeat (first | with_reducible exact Sel.head | apply Sel.tail))))
        | exact loop_bk (i + 1, v7) ⟨by dsimp only; omega, .inl hk0⟩ (hμ := by dsimp only; omega) (hΓ := by rw [hstep]; repeat (first | exact Pick.nil | apply Pick.cons (by repeat (first | with_reducible exact Sel.head | apply Sel.tail))))
  · have hend := of_decide_eq_false (hz.symm.trans h24)
    have hfull : askL kk n 0 (L.take i) = askL kk n 0 L := by
      by_cases hk0 : 0 < kk
      · rw [List.take_of_length_le (by omega)]
      · rw [askL_no kk n hk0, askL_no kk n hk0]
    rw [hfull]
    refine do_exit ?_
    refine St.then_x ?_
    refine St.then_x ?_
    refine St.blk_s ?_
    refine St.then_n ?_
    refine sr ?_
    refine rr (rd_move rfl) ?_
    refine rr (rd_assign rfl) ?_
    refine run_nil ?_
    refine St.kp [(6, _)] ?_
    refine St.then_n ?_
    refine do_ret ?_
    refine do_ret1 Try.results53 (res_tmp rfl) ?_
    intro w hw
    exact ⟨v7, trivial, rfl, ((Holds.ra_shut ⟨sn, sp, sa, L⟩ g1 g2 N hw).swap_).sb⟩
theorem refRows_spec (F : HP) (r : Nat) (s : AuS) (hs : s.L.length ≤ 3) (hb : (allRows s.L).length ≤ 1099511627776) : Spec Try.prog 59 [.pointer (some ⟨r, 0, none⟩)] [raO r s] F (fun _ : Value => True) (fun v => .tuple #[v, .bool s.all])
    (fun v => [rq v (if s.all then (allRows s.L).length else 0) (if s.all then isort (allRows s.L) else []), raO r s]) := by
  intro ω w hh
  refine enter Try.func59 rfl Try.ntmps59 rfl hh ?_
  simp only [List.cons_append, List.nil_append, argsB]
  refine St.ra_open fun g1 g2 N hN => ?_
  obtain ⟨sn, sp, sa, L⟩ := s
  dsimp only at hN hs hb ⊢
  simp only [raG, List.cons_append, List.nil_append]
  cases sa
  · simp only [Bool.false_eq_true, if_false]
    refine sr ?_
    refine rr (rd_assign rfl) ?_
    refine rr (rd_assign rfl) ?_
    refine nx ?_
    refine do_seq ?_
    refine sr ?_
    refine rr (rd_move rfl) ?_
    refine rr (rd_nilCheck rfl) ?_
    refine rr (rd_fa rfl fld164_3) ?_
    refine rr (rd_ld rfl row4) ?_
    refine rr (rd_not rfl) ?_
    refine run_nil ?_
    refine St.kp [(0, _), (8, _)] ?_
    refine St.then_n ?_
    refine do_cond_t rfl ?_
    refine sr ?_
    refine rr (rd_assign rfl) ?_
    refine rr (rd_assign rfl) ?_
    refine nx ?_
    refine do_ret ?_
    refine St.then_r ?_
    refine do_ret2 Try.results59 (res_tmp rfl) (res_tmp rfl) ?_
    intro w hw
    exact ⟨_, trivial, rfl, Holds.ent (fun h hp => ⟨rfl, hp⟩) (Holds.own_nil (Holds.ra_shut ⟨sn, sp, false, L⟩ g1 g2 N hw))⟩
  · simp only [if_true]
    refine sr ?_
    refine rr (rd_assign rfl) ?_
    refine rr (rd_assign rfl) ?_
    refine nx ?_
    refine do_seq ?_
    refine sr ?_
    refine rr (rd_move rfl) ?_
    refine rr (rd_nilCheck rfl) ?_
    refine rr (rd_fa rfl fld164_3) ?_
    refine rr (rd_ld rfl row4) ?_
    refine rr (rd_not rfl) ?_
    refine run_nil ?_
    refine St.kp [(0, _), (8, _)] ?_
    refine St.then_n ?_
    refine do_cond_f rfl ?_
    refine do_skip ?_
    refine St.then_n ?_
    refine sr ?_
    refine rr (rd_move rfl) ?_
    refine rr (rd_nilCheck rfl) ?_
    refine rr (rd_fa rfl fld164_4) ?_
    refine rr (rd_ld rfl row127) ?_
    refine rc (hs := refMerge_spec _ (.slice (some ⟨g2, 0, none⟩) N N) (L.map fun x => (x.v, x.rows)) (vwLL_map (n := N) (by repeat (first | with_reducible exact Sel.head | apply Sel.tail)) (by repeat (first | with_reducible exact Sel.head | apply Sel.tail)) hN) (by rw [rowsOf_map]; exact hb)) (k := ?_)
    rintro v6 -
    rw [rowsOf_map]
    try simp only [List.cons_append, List.nil_append]
    refine rr (rd_assign rfl) ?_
    refine rr (rd_assign rfl) ?_
    refine run_nil ?_
    refine St.kp [(2, _), (3, _)] ?_
    refine St.then_n ?_
    refine do_ret ?_
    refine do_ret2 Try.results59 (res_tmp rfl) (res_tmp rfl) ?_
    intro w hw
    exact ⟨v6, trivial, rfl, Holds.swap_ ((Holds.ra_shut ⟨sn, sp, true, L⟩ g1 g2 N hw).sb)⟩
end Go.Proofs.Ytglcmlicfmmlpaa
