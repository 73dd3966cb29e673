/-
  The law AuditorMerges.
-/
import Derived.Test.YtglcmlicfmmlpaaA16
namespace Go.Proofs.Ytglcmlicfmmlpaa
open Go.RowKit
set_option linter.unusedSimpArgs false
set_option linter.unusedVariables false

theorem vwLL3 {Γ Γ1 Γ2 : List HP} {X : HP} {g : Nat} {va vb vc : Value} {a b c : List GRow} (h1 : Vw X va 2 a.length (a.flatMap rowC)) (h2 : Vw X vb 2 b.length (b.flatMap rowC)) (h3 : Vw X vc 2 c.length (c.flatMap rowC))
    (p : Sel (pts g 31 [va, vb, vc]) Γ Γ1 := by repeat (first | with_reducible exact Sel.head | apply Sel.tail)) (q : Sel X Γ Γ2 := by repeat (first | with_reducible exact Sel.head | apply Sel.tail)) : VwLL (Sep Γ) (.slice (some ⟨g, 0, none⟩) 3 3) [(va, a), (vb, b), (vc, c)] := ⟨Vw.sep (vw_pts (off := 0) (k := 1) (n := 3) (c := 3) (Nat.le_refl _) (by decide) rfl rfl) p, fun x hx => by
  simp only [List.mem_cons, List.not_mem_nil, or_false] at hx
  rcases hx with rfl | rfl | rfl
  · exact h1.sep q
  · exact h2.sep q
  · exact h3.sep q⟩
theorem vwLL0 {F : HP} : VwLL F (.slice none 0 0) [] := ⟨vw_nil _ _, fun _ h => by cases h⟩
set_option maxHeartbeats 4000000 in
theorem auditorMerges_law (va vb vc : Value) (a b c : List GRow) (w : World) (G : Nat → Prop) (hA : Sl w G 2 va a.length (a.flatMap rowC)) (hB : Sl w G 2 vb b.length (b.flatMap rowC)) (hC : Sl w G 2 vc c.length (c.flatMap rowC)) (hl : a.length + b.length + c.length ≤ 1099511627776) :
    Calls Try.prog 10 #[va, vb, vc] w fun e w' => e = .returned (.bool true) ∧ Fr nowhere w w' := by
  refine enter (vs := [va, vb, vc]) Try.func10 rfl Try.ntmps10 rfl (Holds.init w) ?_
  simp only [argsB]
  have vA : Vw (kept w) va 2 a.length (a.flatMap rowC) := vw_kept (by decide) hA
  have vB : Vw (kept w) vb 2 b.length (b.flatMap rowC) := vw_kept (by decide) hB
  have vC : Vw (kept w) vc 2 c.length (c.flatMap rowC) := vw_kept (by decide) hC
  clear hA hB hC
  refine St.vw vA .head (fun A1 c1 hv _ _ _ => ?_)
  subst hv
  refine St.vw vB .head (fun A2 c2 hv _ _ _ => ?_)
  subst hv
  refine St.vw vC .head (fun A3 c3 hv _ _ _ => ?_)
  subst hv
  have ei : ∀ {i : Int} {k : Nat}, i = k → Value.int .i64 i = .int .i64 (k : Int) := fun h => by rw [h]
  obtain ⟨M, hM⟩ : ∃ M, isort (rowsOf [((.slice A1 a.length c1 : Value), a), (.slice A2 b.length c2, b), (.slice A3 c.length c3, c)]) = M := ⟨_, rfl⟩
  have hrl : (rowsOf [((.slice A1 a.length c1 : Value), a), (.slice A2 b.length c2, b), (.slice A3 c.length c3, c)]).length = M.length := by rw [← hM, isort_len]
  have hML : M.length = a.length + b.length + c.length := by rw [← hrl]; simp [rowsOf]; omega
  have hS : Srt M := hM ▸ isort_srt _
  refine sr ?_
  refine rr (rd_assign rfl) ?_
  refine nx ?_
  refine sr ?_
  refine rr (rd_move rfl) ?_
  refine rr (rd_move rfl) ?_
  refine rr (rd_move rfl) ?_
  refine run_buildSlice (l := [(Operand.tmp 9), (Operand.tmp 10), (Operand.tmp 11)]) rfl (by decide) Try.underlying127 ei31 rfl rfl (by decide) (by decide) (fun b12 => ?_)
  simp only [joinL, cells_agg, cells_int, cells_bcell, cells_bool, cells_string, cells_pointer, cells_slice, cells_map, cells_func, List.cons_append, List.nil_append, List.append_nil]
  refine rc (hs := merge_spec _ _ [(.slice A1 a.length c1, a), (.slice A2 b.length c2, b), (.slice A3 c.length c3, c)] (vwLL3 vA vB vC) (by rw [hrl]; omega)) (k := ?_)
  rintro v7 -
  rw [hM, hrl]
  simp only [List.cons_append, List.nil_append]
  refine St.sl (P := rq v7 M.length M) (St.Q_sl fun A7 c7 hv7 _ _ _ => ?_)
  subst hv7
  try simp only [List.cons_append, List.nil_append]
  refine rr (rd_assign rfl) ?_
  refine run_nil ?_
  refine St.kp [(0, _), (1, _), (2, _), (7, _)] ?_
  refine St.then_n ?_
  refine do_seq ?_
  refine sr ?_
  refine rr (rd_move rfl) ?_
  refine rr (rd_move rfl) ?_
  refine rr (rd_move rfl) ?_
  refine rr (rd_move rfl) ?_
  refine run_buildSlice (l := [(Operand.tmp 15), (Operand.tmp 16), (Operand.tmp 17)]) rfl (by decide) Try.underlying127 ei31 rfl rfl (by decide) (by decide) (fun b18 => ?_)
  simp only [joinL, cells_agg, cells_int, cells_bcell, cells_bool, cells_string, cells_pointer, cells_slice, cells_map, cells_func, List.cons_append, List.nil_append, List.append_nil]
  refine rc (hs := refMerge_spec _ _ [(.slice A1 a.length c1, a), (.slice A2 b.length c2, b), (.slice A3 c.length c3, c)] (vwLL3 vA vB vC) (by rw [hrl]; omega)) (k := ?_)
  rintro v19 -
  rw [hM, hrl]
  simp only [List.cons_append, List.nil_append]
  refine St.sl (P := rq v19 M.length M) (St.Q_sl fun A9 c9 hv9 _ _ _ => ?_)
  subst hv9
  try simp only [List.cons_append, List.nil_append]
  refine rc (hs := sameRows_spec _ A7 A9 c7 c9 M (Vw.sep vw_Q (by repeat (first | with_reducible exact Sel.head | apply Sel.tail))) (Vw.sep vw_Q (by repeat (first | with_reducible exact Sel.head | apply Sel.tail)))) (k := ?_)
  rintro ⟨⟩ -
  try simp only [List.cons_append, List.nil_append]
  refine rr (rd_not rfl) ?_
  refine rr (rd_move rfl) ?_
  first
    | refine sk ?_
    | (refine rc (hs := merge_spec _ (.slice none 0 0) [] vwLL0 (by decide)) (k := ?_)
       rintro v23 -
       rw [show isort (rowsOf []) = [] from rfl, show (rowsOf []).length = 0 from rfl]
       simp only [List.cons_append, List.nil_append]
       refine St.sl (P := rq v23 0 []) (St.Q_sl fun A23 c23 hv23 _ _ _ => ?_)
       subst hv23
       try simp only [List.cons_append, List.nil_append])
  first | refine sk ?_ | (refine rr (rd_len Try.underlying31 rfl) ?_)
  first | refine sk ?_ | (refine rr ((rd_ne rfl rfl).eq (show _ = Value.bool false from rfl)) ?_)
  refine rr (rd_pick rfl rfl) ?_
  refine run_nil ?_
  refine St.kp [(0, _), (1, _), (2, _), (7, _), (26, _)] ?_
  refine St.then_n ?_
  refine do_cond_f rfl ?_
  refine do_skip ?_
  refine St.then_n ?_
  refine do_seq ?_
  refine sr ?_
  refine rr (rd_assign rfl) ?_
  refine nx ?_
  refine do_block ?_
  refine do_lp (fun i : Nat => 1 ≤ i ∧ (i ≤ M.length ∨ i = 1)) (fun i => [(0, .slice A1 a.length c1), (1, .slice A2 b.length c2), (2, .slice A3 c.length c3), (7, .slice A7 M.length c7), (8, .int .i64 i)]) (fun _ => [rq (.slice A7 M.length c7) M.length M, kept w]) (fun i => M.length - i) 1 ⟨Nat.le_refl _, .inr rfl⟩ ?_
  rintro i ⟨hi1, hi2⟩
  refine do_seq ?_
  refine sr ?_
  refine rr (rd_move rfl) ?_
  refine rr (rd_move rfl) ?_
  refine rr (rd_len Try.underlying31 rfl) ?_
  refine rr (rd_lt rfl rfl) ?_
  refine nx ?_
  first | refine do_condp rfl (fun h30 => ?_) (fun h30 => ?_) | refine do_cond rfl (fun h30 => ?_) (fun h30 => ?_)
  · have hx := List.getElem?_eq_getElem (l := M) (i := i) (by omega)
    have hy := List.getElem?_eq_getElem (l := M) (i := i - 1) (by omega)
    have hlt : ¬ lt (M[i]'(by omega)) (M[i - 1]'(by omega)) := List.pairwise_iff_getElem.1 hS (i - 1) i (by omega) (by omega) (by omega)
    generalize M[i]'_ = x at hx hlt
    generalize M[i - 1]'_ = y at hy hlt
    refine St.sl (P := rq (.slice A7 M.length c7) M.length M) (St.Q_some (by omega) fun g c8 hg _ _ => ?_)
    cases hg
    refine do_skip ?_
    refine St.then_n ?_
    refine do_seq ?_
    refine do_block ?_
    refine do_seq ?_
    refine do_draw [[2, 3, 4, 11], [2, 3, 4, 11], [3, 4, 11], [4, 11], [11], [8, 9, 10, 11], [7, 8, 9, 10, 11], [8, 9, 10, 11], [9, 10, 11], [10, 11], [11], []] (by kernel_rfl) rfl ?_
    refine ta 0 rfl (rd_move rfl) ?_
    refine ta 1 rfl (rd_move rfl) ?_
    refine ta 2 rfl (rd_indexAddr Try.underlying31 ei108 rfl rfl (by omega) (by omega)) ?_
    refine ta 3 rfl (rd_fa (off' := i * 2 + 0) rfl fld108_0 (by simp)) ?_
    refine ta 4 rfl (rd_ld rfl row9 (cell_Q M i 0 x rowC_len hx (by decide) rfl rfl)) ?_
    refine ta 5 rfl (rd_move rfl) ?_
    refine ta 6 rfl (rd_move rfl) ?_
    refine ta 7 rfl ((rd_subi rfl rfl).eq (ei (k := i - 1) (by omega))) ?_
    refine ta 8 rfl (rd_indexAddr Try.underlying31 ei108 rfl rfl (by omega) (by omega)) ?_
    refine ta 9 rfl (rd_fa (off' := (i - 1) * 2 + 0) rfl fld108_0 (by simp)) ?_
    refine ta 10 rfl (rd_ld rfl row9 (cell_Q M (i - 1) 0 y rowC_len hy (by decide) rfl rfl)) ?_
    refine ta 11 rfl ((rd_str_lss rfl rfl).eq (congrArg Value.bool (decide_eq_false hlt))) ?_
    refine any_nil (by kernel_rfl) ?_
    refine St.kp [(0, _), (1, _), (2, _), (7, _), (8, _), (44, _)] ?_
    refine St.then_n ?_
    refine do_cond_f rfl ?_
    refine do_skip ?_
    refine St.blk_n ?_
    refine St.then_n ?_
    refine do_region ?_
    refine rr (rd_move rfl) ?_
    refine rr (rd_addi rfl rfl) ?_
    refine rr (rd_assign rfl) ?_
    refine nx ?_
    exact loop_bk (i + 1) ⟨by omega, by omega⟩ (hμ := by omega)
  · refine do_exit ?_
    refine St.then_x ?_
    refine St.then_x ?_
    refine St.blk_s ?_
    refine St.then_n ?_
    refine sr ?_
    refine rr (rd_move rfl) ?_
    refine rr (rd_len Try.underlying31 rfl) ?_
    refine rr (rd_move rfl) ?_
    refine rr (rd_len Try.underlying31 rfl) ?_
    refine rr (rd_move rfl) ?_
    refine rr (rd_len Try.underlying31 rfl) ?_
    refine rr (rd_addi rfl rfl) ?_
    refine rr (rd_move rfl) ?_
    refine rr (rd_len Try.underlying31 rfl) ?_
    refine rr (rd_addi rfl rfl) ?_
    refine rr ((rd_eq rfl rfl).eq (congrArg Value.bool (decide_eq_true (by omega)))) ?_
    refine rr (rd_move rfl) ?_
    first
      | refine sk ?_
      | (refine rc (hs := known17_spec _) (k := ?_)
         rintro ⟨⟩ -
         try simp only [List.cons_append, List.nil_append])
    refine rr (rd_pick rfl rfl) ?_
    refine rr (rd_assign rfl) ?_
    refine run_nil ?_
    refine St.kp [(6, _)] ?_
    refine St.then_n ?_
    refine do_ret ?_
    refine do_ret1 Try.results10 (res_tmp rfl) ?_
    intro w hw
    exact ⟨rfl, hw.to_fr (by repeat (first | with_reducible exact Sel.head | apply Sel.tail))⟩
end Go.Proofs.Ytglcmlicfmmlpaa
