/-
  The reference's merging: the walk.
-/
import Derived.Test.YtglcmlicfmmlpaaA15
namespace Go.Proofs.Ytglcmlicfmmlpaa
open Go.RowKit
set_option linter.unusedSimpArgs false
set_option linter.unusedVariables false

set_option maxHeartbeats 4000000 in
theorem refMerge_spec (F : HP) (v : Value) (LL : List (Value × List GRow)) (hV : VwLL F v LL) (hn : (rowsOf LL).length ≤ 1099511627776) :
    Spec Try.prog 65 [v] [] F (fun _ : Value => True) (fun v' => v') (fun v' => [rq v' (rowsOf LL).length (isort (rowsOf LL))]) := by
  intro ω w hh
  refine enter Try.func65 rfl Try.ntmps65 rfl hh ?_
  simp only [List.nil_append, argsB]
  obtain ⟨hV1, hV2⟩ := hV
  refine St.vw hV1 .head (fun A c hv hc hm _ => ?_)
  subst hv
  have hll : LL.length ≤ 9223372036854775807 := by simp only [maxLen] at hm; omega
  have ei : ∀ {i : Int} {k : Nat}, i = k → Value.int .i64 i = .int .i64 (k : Int) := fun h => by rw [h]
  refine sr ?_
  refine rr (rd_assign rfl) ?_
  refine nx ?_
  refine sr ?_
  refine rr (rd_assign rfl) ?_
  refine nx ?_
  refine do_seq ?_
  refine sr ?_
  refine rr (rd_assign rfl) ?_
  refine nx ?_
  refine do_block ?_
  refine St.nilQ (f := rowC) (T := 108) (k := 2) ?_
  refine do_lp (fun y : Nat × Value => y.1 ≤ LL.length) (fun y => [(0, .slice A LL.length c), (3, y.2), (4, .int .i64 y.1)]) (fun y => [rq y.2 (rowsOf (LL.take y.1)).length (isort (rowsOf (LL.take y.1))), F]) (fun y => LL.length - y.1) (0, .slice none 0 0) (Nat.zero_le _) ?_ (hΓ := .cons .head (.cons .head .nil))
  rintro ⟨i, v3⟩ hi
  dsimp only at hi ⊢
  refine do_seq ?_
  refine sr ?_
  refine rr (rd_move rfl) ?_
  refine rr (rd_move rfl) ?_
  refine rr (rd_len Try.underlying127 rfl) ?_
  refine rr (rd_lt rfl rfl) ?_
  refine nx ?_
  first | refine do_condp rfl (fun h11 => ?_) (fun h11 => ?_) | refine do_cond rfl (fun h11 => ?_) (fun h11 => ?_)
  · have hx := List.getElem?_eq_getElem (l := LL) (i := i) (by omega)
    have hxm := List.mem_of_getElem? hx
    generalize LL[i]'_ = x at hx hxm
    have hle := rowsOf_le LL (i + 1)
    have htk : rowsOf (LL.take (i + 1)) = rowsOf (LL.take i) ++ x.2 := by rw [take_get hx, rowsOf, List.flatMap_append]; simp
    rw [htk, List.length_append] at hle
    have hcell : (LL.map (·.1))[i]? = some x.1 := by rw [List.getElem?_map, hx]; rfl
    have hxv := hV2 x hxm
    obtain ⟨xv, xl⟩ := x
    dsimp only at hxv htk hle hcell
    refine St.vw hxv (by repeat (first | with_reducible exact Sel.head | apply Sel.tail)) (fun A1 c1 hv1 _ _ _ => ?_)
    subst hv1
    refine St.vw_some hV1 (by repeat (first | with_reducible exact Sel.head | apply Sel.tail)) (by omega) (fun g of hg _ _ => ?_)
    subst hg
    obtain ⟨R, hR⟩ : ∃ R, rowsOf (LL.take i) = R := ⟨_, rfl⟩
    rw [hR] at htk hle ⊢
    refine do_skip ?_
    refine St.then_n ?_
    refine do_seq ?_
    refine do_block ?_
    refine sr ?_
    refine rr (rd_assign rfl) ?_
    refine run_nil ?_
    refine St.kp [(0, _), (3, _), (4, _), (5, _)] ?_
    refine St.then_n ?_
    refine do_block ?_
    rw [show isort R = isort (R ++ xl.take 0) by simp]
    refine do_lp (fun z : Nat × Value => z.1 ≤ xl.length) (fun z => [(0, .slice (some ⟨g, of, none⟩) LL.length c), (3, z.2), (4, .int .i64 i), (5, .int .i64 z.1)]) (fun z => [rq z.2 (R.length + z.1) (isort (R ++ xl.take z.1)), F]) (fun z => xl.length - z.1) (0, v3) (Nat.zero_le _) ?_ (hΓ := .cons .head (.cons .head .nil))
    rintro ⟨j, v4⟩ hj
    dsimp only at hj ⊢
    obtain ⟨N, hN⟩ : ∃ N, R.length + j = N := ⟨_, rfl⟩
    obtain ⟨out, hout⟩ : ∃ out, isort (R ++ xl.take j) = out := ⟨_, rfl⟩
    rw [hN, hout]
    refine St.Q_sl fun A2 c2 hv2 hc2 _ hol => ?_
    subst hv2
    have hsrt : Srt out := hout ▸ isort_srt _
    refine do_seq ?_
    refine sr ?_
    refine rr (rd_move rfl) ?_
    refine rr (rd_move rfl) ?_
    refine rr (rd_move rfl) ?_
    refine rr ((rd_indexAddr Try.underlying127 ei31 rfl rfl (by omega) (by omega)).eq (show _ = Value.pointer (some ⟨g, of + i, none⟩) by simp)) ?_
    refine rr (rd_ld rfl row31 (Vw.cells1 hV1 (by repeat (first | with_reducible exact Sel.head | apply Sel.tail)) (by omega) hcell)) ?_
    refine rr (rd_len Try.underlying31 rfl) ?_
    refine rr (rd_lt rfl rfl) ?_
    refine run_nil ?_
    refine St.kp [(0, _), (3, _), (4, _), (5, _), (20, _)] ?_
    refine St.then_n ?_
    first | refine do_condp rfl (fun h20 => ?_) (fun h20 => ?_) | refine do_cond rfl (fun h20 => ?_) (fun h20 => ?_)
    · have hy := List.getElem?_eq_getElem (l := xl) (i := j) (by omega)
      generalize xl[j]'_ = y at hy
      refine St.vw_some hxv (by repeat (first | with_reducible exact Sel.head | apply Sel.tail)) (by omega) (fun g1 of1 hg1 _ _ => ?_)
      subst hg1
      have hins : isort (R ++ xl.take (j + 1)) = ins y out := by rw [take_get hy, ← List.append_assoc, isort_snoc, hout]
      refine do_skip ?_
      refine St.then_n ?_
      refine do_seq ?_
      refine do_block ?_
      refine sr ?_
      refine rr (rd_move rfl) ?_
      refine rr (rd_len Try.underlying31 rfl) ?_
      refine rr (rd_assign rfl) ?_
      refine nx ?_
      refine do_seq ?_
      refine do_block ?_
      refine do_lp (fun k : Nat => k ≤ N ∧ ∀ p z, k ≤ p → out[p]? = some z → lt y z) (fun k => [(0, .slice (some ⟨g, of, none⟩) LL.length c), (3, .slice A2 N c2), (4, .int .i64 i), (5, .int .i64 j), (6, .int .i64 k)]) (fun _ => [rq (.slice A2 N c2) N out, F]) (fun k => k) N ⟨Nat.le_refl _, fun p z hp hz => absurd (List.getElem?_eq_some_iff.1 hz).1 (by omega)⟩ ?_
      rintro k ⟨hk, hkp⟩
      have hcase : k = 0 ∨ (0 < k ∧ ∃ z, out[k - 1]? = some z ∧ lt y z) ∨ (0 < k ∧ ∃ z, out[k - 1]? = some z ∧ ¬ lt y z) := by
        rcases Nat.eq_zero_or_pos k with h | h
        · exact .inl h
        · have hz := List.getElem?_eq_getElem (l := out) (i := k - 1) (by omega)
          by_cases hl : lt y (out[k - 1]'(by omega))
          · exact .inr (.inl ⟨h, _, hz, hl⟩)
          · exact .inr (.inr ⟨h, _, hz, hl⟩)
      refine do_seq ?_
      refine do_seq ?_
      refine do_cut (fun q : Bool => (q = true → 0 < k ∧ ∃ z, out[k - 1]? = some z ∧ lt y z) ∧ (q = false → k = 0 ∨ (0 < k ∧ ∃ z, out[k - 1]? = some z ∧ ¬ lt y z))) (fun q => [(0, .slice (some ⟨g, of, none⟩) LL.length c), (3, .slice A2 N c2), (4, .int .i64 i), (5, .int .i64 j), (6, .int .i64 k), (43, .bool q)]) (fun _ => [rq (.slice A2 N c2) N out, F]) (fun K hK => ?_) ?_
      · (rcases hcase with hA | ⟨hA, zz, hz, hlt⟩ | ⟨hA, zz, hz, hlt⟩) <;> (try (refine St.sl (P := rq (.slice A2 N c2) N out) (St.Q_some (by omega) fun g2 c3 hg2 _ _ => ?_); cases hg2))
        · refine do_draw [[1, 2, 3, 4, 5, 6, 7, 8, 9, 10, 11, 12, 13, 14, 15, 16, 17, 18], [2, 3, 4, 5, 6, 7, 8, 9, 10, 11, 12, 13, 14, 15, 16, 17, 18], [3, 4, 5, 6, 7, 8, 9, 10, 11, 12, 13, 14, 15, 16, 17, 18], [6, 7, 8, 17, 18], [5, 6, 7, 8, 17, 18], [6, 7, 8, 17, 18], [7, 8, 17, 18], [8, 17, 18], [17, 18], [11, 12, 14, 15, 16, 17, 18], [11, 12, 14, 15, 16, 17, 18], [12, 14, 15, 16, 17, 18], [14, 15, 16, 17, 18], [14, 15, 16, 17, 18], [15, 16, 17, 18], [16, 17, 18], [17, 18], [18], []] (by kernel_rfl) rfl ?_
          refine ta 0 rfl (rd_move rfl) ?_
          first | refine ta 1 rfl ((rd_gt rfl rfl).eq (congrArg Value.bool (decide_eq_false (by omega)))) ?_ | refine ta 1 rfl ((rd_gt rfl rfl).eq (congrArg Value.bool (decide_eq_true (by omega)))) ?_
          refine ta 2 rfl (rd_move rfl) ?_
          first | refine ts 3 ?_ | refine ta 3 rfl (rd_move rfl) ?_
          first | refine ts 4 ?_ | refine ta 4 rfl (rd_move rfl) ?_
          first | refine ts 5 ?_ | refine ta 5 rfl ((rd_subi rfl rfl).eq (ei (k := k - 1) (by omega))) ?_
          first | refine ts 6 ?_ | refine ta 6 rfl (rd_indexAddr Try.underlying31 ei108 rfl rfl (by omega) (by omega)) ?_
          first | refine ts 7 ?_ | refine ta 7 rfl (rd_fa (off' := (k - 1) * 2 + 0) rfl fld108_0 (by simp)) ?_
          first | refine ts 8 ?_ | refine ta 8 rfl (rd_ld rfl row9 (cell_Q out (k - 1) 0 zz rowC_len hz (by decide) rfl rfl)) ?_
          first | refine ts 9 ?_ | refine ta 9 rfl (rd_move rfl) ?_
          first | refine ts 10 ?_ | refine ta 10 rfl (rd_move rfl) ?_
          first | refine ts 11 ?_ | refine ta 11 rfl ((rd_indexAddr Try.underlying127 ei31 rfl rfl (by omega) (by omega)).eq (show _ = Value.pointer (some ⟨g, of + i, none⟩) by simp)) ?_
          first | refine ts 12 ?_ | refine ta 12 rfl (rd_ld rfl row31 (Vw.cells1 hV1 (by repeat (first | with_reducible exact Sel.head | apply Sel.tail)) (by omega) hcell)) ?_
          first | refine ts 13 ?_ | refine ta 13 rfl (rd_move rfl) ?_
          first | refine ts 14 ?_ | refine ta 14 rfl (rd_indexAddr Try.underlying31 ei108 rfl rfl (by omega) (by omega)) ?_
          first | refine ts 15 ?_ | refine ta 15 rfl (rd_fa (off' := of1 + (j * 2 + 0)) rfl fld108_0 (by simp)) ?_
          first | refine ts 16 ?_ | refine ta 16 rfl (rd_ld rfl row9 (Vw.cells1 hxv (by repeat (first | with_reducible exact Sel.head | apply Sel.tail)) (by omega) (flat_cell (f := rowC) (k := 2) (j := 0) (u := .string (strOf y.name)) rowC_len hy (by decide) rfl))) ?_
          first | refine ts 17 ?_ | refine ta 17 rfl ((rd_str_gtr rfl rfl).eq (congrArg Value.bool (decide_eq_true hlt))) ?_ | refine ta 17 rfl ((rd_str_gtr rfl rfl).eq (congrArg Value.bool (decide_eq_false hlt))) ?_
          refine ta 18 rfl (rd_pick rfl rfl) ?_
          refine any_nil (by kernel_rfl) ?_
          refine St.then_n ?_
          first
            | exact St.sb (St.kq [(0, _), (3, _), (4, _), (5, _), (6, _), (43, _)] (h := hK false ⟨nofun, fun _ => .inl hA⟩))
            | exact St.sb (St.kq [(0, _), (3, _), (4, _), (5, _), (6, _), (43, _)] (h := hK true ⟨fun _ => ⟨hA, zz, hz, hlt⟩, nofun⟩))
            | exact St.sb (St.kq [(0, _), (3, _), (4, _), (5, _), (6, _), (43, _)] (h := hK false ⟨nofun, fun _ => .inr ⟨hA, zz, hz, hlt⟩⟩))
        · refine do_draw [[1, 2, 3, 4, 5, 6, 7, 8, 9, 10, 11, 12, 13, 14, 15, 16, 17, 18], [2, 3, 4, 5, 6, 7, 8, 9, 10, 11, 12, 13, 14, 15, 16, 17, 18], [3, 4, 5, 6, 7, 8, 9, 10, 11, 12, 13, 14, 15, 16, 17, 18], [6, 7, 8, 17, 18], [5, 6, 7, 8, 17, 18], [6, 7, 8, 17, 18], [7, 8, 17, 18], [8, 17, 18], [17, 18], [11, 12, 14, 15, 16, 17, 18], [11, 12, 14, 15, 16, 17, 18], [12, 14, 15, 16, 17, 18], [14, 15, 16, 17, 18], [14, 15, 16, 17, 18], [15, 16, 17, 18], [16, 17, 18], [17, 18], [18], []] (by kernel_rfl) rfl ?_
          refine ta 0 rfl (rd_move rfl) ?_
          first | refine ta 1 rfl ((rd_gt rfl rfl).eq (congrArg Value.bool (decide_eq_false (by omega)))) ?_ | refine ta 1 rfl ((rd_gt rfl rfl).eq (congrArg Value.bool (decide_eq_true (by omega)))) ?_
          refine ta 2 rfl (rd_move rfl) ?_
          first | refine ts 3 ?_ | refine ta 3 rfl (rd_move rfl) ?_
          first | refine ts 4 ?_ | refine ta 4 rfl (rd_move rfl) ?_
          first | refine ts 5 ?_ | refine ta 5 rfl ((rd_subi rfl rfl).eq (ei (k := k - 1) (by omega))) ?_
          first | refine ts 6 ?_ | refine ta 6 rfl (rd_indexAddr Try.underlying31 ei108 rfl rfl (by omega) (by omega)) ?_
          first | refine ts 7 ?_ | refine ta 7 rfl (rd_fa (off' := (k - 1) * 2 + 0) rfl fld108_0 (by simp)) ?_
          first | refine ts 8 ?_ | refine ta 8 rfl (rd_ld rfl row9 (cell_Q out (k - 1) 0 zz rowC_len hz (by decide) rfl rfl)) ?_
          first | refine ts 9 ?_ | refine ta 9 rfl (rd_move rfl) ?_
          first | refine ts 10 ?_ | refine ta 10 rfl (rd_move rfl) ?_
          first | refine ts 11 ?_ | refine ta 11 rfl ((rd_indexAddr Try.underlying127 ei31 rfl rfl (by omega) (by omega)).eq (show _ = Value.pointer (some ⟨g, of + i, none⟩) by simp)) ?_
          first | refine ts 12 ?_ | refine ta 12 rfl (rd_ld rfl row31 (Vw.cells1 hV1 (by repeat (first | with_reducible exact Sel.head | apply Sel.tail)) (by omega) hcell)) ?_
          first | refine ts 13 ?_ | refine ta 13 rfl (rd_move rfl) ?_
          first | refine ts 14 ?_ | refine ta 14 rfl (rd_indexAddr Try.underlying31 ei108 rfl rfl (by omega) (by omega)) ?_
          first | refine ts 15 ?_ | refine ta 15 rfl (rd_fa (off' := of1 + (j * 2 + 0)) rfl fld108_0 (by simp)) ?_
          first | refine ts 16 ?_ | refine ta 16 rfl (rd_ld rfl row9 (Vw.cells1 hxv (by repeat (first | with_reducible exact Sel.head | apply Sel.tail)) (by omega) (flat_cell (f := rowC) (k := 2) (j := 0) (u := .string (strOf y.name)) rowC_len hy (by decide) rfl))) ?_
          first | refine ts 17 ?_ | refine ta 17 rfl ((rd_str_gtr rfl rfl).eq (congrArg Value.bool (decide_eq_true hlt))) ?_ | refine ta 17 rfl ((rd_str_gtr rfl rfl).eq (congrArg Value.bool (decide_eq_false hlt))) ?_
          refine ta 18 rfl (rd_pick rfl rfl) ?_
          refine any_nil (by kernel_rfl) ?_
          refine St.then_n ?_
          first
            | exact St.sb (St.kq [(0, _), (3, _), (4, _), (5, _), (6, _), (43, _)] (h := hK false ⟨nofun, fun _ => .inl hA⟩))
            | exact St.sb (St.kq [(0, _), (3, _), (4, _), (5, _), (6, _), (43, _)] (h := hK true ⟨fun _ => ⟨hA, zz, hz, hlt⟩, nofun⟩))
            | exact St.sb (St.kq [(0, _), (3, _), (4, _), (5, _), (6, _), (43, _)] (h := hK false ⟨nofun, fun _ => .inr ⟨hA, zz, hz, hlt⟩⟩))
        · refine do_draw [[1, 2, 3, 4, 5, 6, 7, 8, 9, 10, 11, 12, 13, 14, 15, 16, 17, 18], [2, 3, 4, 5, 6, 7, 8, 9, 10, 11, 12, 13, 14, 15, 16, 17, 18], [3, 4, 5, 6, 7, 8, 9, 10, 11, 12, 13, 14, 15, 16, 17, 18], [6, 7, 8, 17, 18], [5, 6, 7, 8, 17, 18], [6, 7, 8, 17, 18], [7, 8, 17, 18], [8, 17, 18], [17, 18], [11, 12, 14, 15, 16, 17, 18], [11, 12, 14, 15, 16, 17, 18], [12, 14, 15, 16, 17, 18], [14, 15, 16, 17, 18], [14, 15, 16, 17, 18], [15, 16, 17, 18], [16, 17, 18], [17, 18], [18], []] (by kernel_rfl) rfl ?_
          refine ta 0 rfl (rd_move rfl) ?_
          first | refine ta 1 rfl ((rd_gt rfl rfl).eq (congrArg Value.bool (decide_eq_false (by omega)))) ?_ | refine ta 1 rfl ((rd_gt rfl rfl).eq (congrArg Value.bool (decide_eq_true (by omega)))) ?_
          refine ta 2 rfl (rd_move rfl) ?_
          first | refine ts 3 ?_ | refine ta 3 rfl (rd_move rfl) ?_
          first | refine ts 4 ?_ | refine ta 4 rfl (rd_move rfl) ?_
          first | refine ts 5 ?_ | refine ta 5 rfl ((rd_subi rfl rfl).eq (ei (k := k - 1) (by omega))) ?_
          first | refine ts 6 ?_ | refine ta 6 rfl (rd_indexAddr Try.underlying31 ei108 rfl rfl (by omega) (by omega)) ?_
          first | refine ts 7 ?_ | refine ta 7 rfl (rd_fa (off' := (k - 1) * 2 + 0) rfl fld108_0 (by simp)) ?_
          first | refine ts 8 ?_ | refine ta 8 rfl (rd_ld rfl row9 (cell_Q out (k - 1) 0 zz rowC_len hz (by decide) rfl rfl)) ?_
          first | refine ts 9 ?_ | refine ta 9 rfl (rd_move rfl) ?_
          first | refine ts 10 ?_ | refine ta 10 rfl (rd_move rfl) ?_
          first | refine ts 11 ?_ | refine ta 11 rfl ((rd_indexAddr Try.underlying127 ei31 rfl rfl (by omega) (by omega)).eq (show _ = Value.pointer (some ⟨g, of + i, none⟩) by simp)) ?_
          first | refine ts 12 ?_ | refine ta 12 rfl (rd_ld rfl row31 (Vw.cells1 hV1 (by repeat (first | with_reducible exact Sel.head | apply Sel.tail)) (by omega) hcell)) ?_
          first | refine ts 13 ?_ | refine ta 13 rfl (rd_move rfl) ?_
          first | refine ts 14 ?_ | refine ta 14 rfl (rd_indexAddr Try.underlying31 ei108 rfl rfl (by omega) (by omega)) ?_
          first | refine ts 15 ?_ | refine ta 15 rfl (rd_fa (off' := of1 + (j * 2 + 0)) rfl fld108_0 (by simp)) ?_
          first | refine ts 16 ?_ | refine ta 16 rfl (rd_ld rfl row9 (Vw.cells1 hxv (by repeat (first | with_reducible exact Sel.head | apply Sel.tail)) (by omega) (flat_cell (f := rowC) (k := 2) (j := 0) (u := .string (strOf y.name)) rowC_len hy (by decide) rfl))) ?_
          first | refine ts 17 ?_ | refine ta 17 rfl ((rd_str_gtr rfl rfl).eq (congrArg Value.bool (decide_eq_true hlt))) ?_ | refine ta 17 rfl ((rd_str_gtr rfl rfl).eq (congrArg Value.bool (decide_eq_false hlt))) ?_
          refine ta 18 rfl (rd_pick rfl rfl) ?_
          refine any_nil (by kernel_rfl) ?_
          refine St.then_n ?_
          first
            | exact St.sb (St.kq [(0, _), (3, _), (4, _), (5, _), (6, _), (43, _)] (h := hK false ⟨nofun, fun _ => .inl hA⟩))
            | exact St.sb (St.kq [(0, _), (3, _), (4, _), (5, _), (6, _), (43, _)] (h := hK true ⟨fun _ => ⟨hA, zz, hz, hlt⟩, nofun⟩))
            | exact St.sb (St.kq [(0, _), (3, _), (4, _), (5, _), (6, _), (43, _)] (h := hK false ⟨nofun, fun _ => .inr ⟨hA, zz, hz, hlt⟩⟩))
      rintro q ⟨hq1, hq2⟩
      first | refine do_condp rfl (fun h43 => ?_) (fun h43 => ?_) | refine do_cond rfl (fun h43 => ?_) (fun h43 => ?_)
      · obtain ⟨hA, zz, hz, hlt⟩ := hq1 h43
        refine do_skip ?_
        refine St.then_n ?_
        refine do_block ?_
        refine do_region ?_
        refine rr (rd_move rfl) ?_
        refine rr ((rd_subi rfl rfl).eq (ei (k := k - 1) (by omega))) ?_
        refine rr (rd_assign rfl) ?_
        refine run_nil ?_
        refine St.blk_n ?_
        refine St.then_n ?_
        exact loop_bk (k - 1) ⟨by omega, fun p z hp hpz => by
          rcases Nat.lt_or_eq_of_le hp with h | rfl
          · exact hkp p z (by omega) hpz
          · rw [hz] at hpz; cases hpz; exact hlt⟩ (hμ := by omega)
      · have hfin : ins y out = out.take k ++ y :: out.drop k := ins_atk (by omega) hkp (fun p z hp hpz => by
          rcases hq2 h43 with rfl | ⟨hA, zz, hz, hlt⟩
          · omega
          · exact srt_before hsrt hz hlt (by omega) hpz)
        rw [hfin] at hins
        refine do_exit ?_
        refine St.then_x ?_
        refine St.then_x ?_
        refine St.blk_s ?_
        refine St.then_n ?_
        refine sr ?_
        refine rr (rd_assign rfl) ?_
        refine nx ?_
        refine sr ?_
        refine rr (rd_move rfl) ?_
        refine rr (rd_move rfl) ?_
        refine rr (rd_move rfl) ?_
        refine rr ((rd_slice (i := 0) (j := (k : Nat)) Try.underlying31 ei108 rfl rfl rfl (by omega) (by omega) (by omega)).eq (show _ = Value.slice (subA A2 c2 0 2) (k - 0) (c2 - 0) from rfl)) ?_
        refine St.nilQ (f := rowC) (T := 108) (k := 2) ?_
        refine r_apQ (f := rowC) (L := []) (n := 0) (M := (out.drop 0).take (k - 0)) rowC_len rowC_one Try.underlying31 ei108 (X := rq (.slice A2 N c2) N out) (vw_subQ rowC_len (by decide) (Nat.zero_le _) hk) (by rw [List.length_take, List.length_drop]; omega) (by omega) (by omega) (by omega) (fun v7 _ => ?_)
        rw [show [] ++ (out.drop 0).take (k - 0) = out.take k from rfl, show 0 + (k - 0) = k by omega]
        refine rr (rd_assign rfl) ?_
        refine run_nil ?_
        refine St.kp [(0, _), (3, _), (4, _), (5, _), (6, _), (7, _)] ?_
        refine St.then_n ?_
        refine sr ?_
        refine rr (rd_move rfl) ?_
        refine rr (rd_move rfl) ?_
        refine rr (rd_move rfl) ?_
        refine rr ((rd_indexAddr Try.underlying127 ei31 rfl rfl (by omega) (by omega)).eq (show _ = Value.pointer (some ⟨g, of + i, none⟩) by simp)) ?_
        refine rr (rd_ld rfl row31 (Vw.cells1 hV1 (by repeat (first | with_reducible exact Sel.head | apply Sel.tail)) (by omega) hcell)) ?_
        refine rr (rd_move rfl) ?_
        refine rr (rd_indexAddr Try.underlying31 ei108 rfl rfl (by omega) (by omega)) ?_
        refine rr (rd_ldr _ rfl row108 (Vw.cells (vs := rowC y) hxv (by repeat (first | with_reducible exact Sel.head | apply Sel.tail)) (by omega) (flat_at (f := rowC) (k := 2) rowC_len hy))) ?_
        refine run_buildSlice (l := [(Operand.tmp 58)]) rfl (by decide) Try.underlying31 ei108 rfl rfl (by decide) (by decide) (fun b59 => ?_)
        simp only [joinL, cells_agg, cells_int, cells_bcell, cells_bool, cells_string, cells_pointer, cells_slice, cells_map, cells_func, List.cons_append, List.nil_append, List.append_nil]
        refine r_apQ (f := rowC) (n := k) (M := [y]) rowC_len rowC_one Try.underlying31 ei108 (X := pts b59 108 (rowC y)) (vw_pts (off := 0) (Nat.le_refl _) (by decide) rfl rfl) rfl (by omega) (by decide) (by omega) (fun v8 _ => ?_)
        refine rr (rd_assign rfl) ?_
        refine run_nil ?_
        refine St.kp [(0, _), (3, _), (4, _), (5, _), (6, _), (7, _)] ?_
        refine St.then_n ?_
        refine sr ?_
        refine rr (rd_move rfl) ?_
        refine rr (rd_move rfl) ?_
        refine rr (rd_move rfl) ?_
        refine rr ((rd_slice (i := (k : Nat)) (j := (N : Nat)) Try.underlying31 ei108 rfl rfl rfl (by omega) (by omega) (by omega)).eq (show _ = Value.slice (subA A2 c2 k 2) (N - k) (c2 - k) from rfl)) ?_
        refine r_apQ (f := rowC) (n := k + 1) (M := (out.drop k).take (N - k)) rowC_len rowC_one Try.underlying31 ei108 (X := rq (.slice A2 N c2) N out) (vw_subQ rowC_len (by decide) hk (Nat.le_refl _)) (by rw [List.length_take, List.length_drop]; omega) (by omega) (by omega) (by omega) (fun v9 _ => ?_)
        rw [show out.take k ++ [y] ++ (out.drop k).take (N - k) = isort (R ++ xl.take (j + 1)) by rw [hins, show (out.drop k).take (N - k) = out.drop k from List.take_of_length_le (by rw [List.length_drop]; omega)]; simp, show k + 1 + (N - k) = R.length + (j + 1) by omega]
        refine rr (rd_assign rfl) ?_
        refine run_nil ?_
        refine St.kp [(0, _), (4, _), (5, _), (7, _)] ?_
        refine St.then_n ?_
        refine do_region ?_
        refine rr (rd_move rfl) ?_
        refine rr (rd_assign rfl) ?_
        refine run_nil ?_
        refine St.blk_n ?_
        refine St.then_n ?_
        refine do_region ?_
        refine rr (rd_move rfl) ?_
        refine rr (rd_addi rfl rfl) ?_
        refine rr (rd_assign rfl) ?_
        refine run_nil ?_
        refine St.kp [(0, _), (3, _), (4, _), (5, _)] ?_
        refine St.then_n ?_
        exact loop_bk (j + 1, v9) (by dsimp only; omega) (hμ := by dsimp only; omega)
    · obtain rfl : j = xl.length := by omega
      rw [← hN, ← hout, show R ++ xl.take xl.length = rowsOf (LL.take (i + 1)) by rw [htk, List.take_of_length_le (Nat.le_refl _)], show R.length + xl.length = (rowsOf (LL.take (i + 1))).length by rw [htk, List.length_append]]
      refine do_exit ?_
      refine St.then_x ?_
      refine St.then_x ?_
      refine St.blk_s ?_
      refine St.blk_n ?_
      refine St.then_n ?_
      refine do_region ?_
      refine rr (rd_move rfl) ?_
      refine rr (rd_addi rfl rfl) ?_
      refine rr (rd_assign rfl) ?_
      refine run_nil ?_
      refine St.kp [(0, _), (3, _), (4, _)] ?_
      refine St.then_n ?_
      exact loop_bk (i + 1, _) (by dsimp only; omega) (hμ := by dsimp only; omega)
  · refine do_exit ?_
    refine St.then_x ?_
    refine St.then_x ?_
    refine St.blk_s ?_
    refine St.then_n ?_
    refine sr ?_
    refine rr (rd_move rfl) ?_
    refine rr (rd_assign rfl) ?_
    refine run_nil ?_
    refine St.kp [(2, _)] ?_
    refine St.then_n ?_
    refine do_ret ?_
    refine do_ret1 Try.results65 (res_tmp rfl) ?_
    intro w hw
    rw [show LL.take i = LL from List.take_of_length_le (by omega)] at hw
    exact ⟨v3, trivial, rfl, hw⟩
end Go.Proofs.Ytglcmlicfmmlpaa
