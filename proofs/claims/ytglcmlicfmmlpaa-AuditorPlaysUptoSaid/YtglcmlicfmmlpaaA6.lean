/-
  Rows in the order of their names: the library's stable sort; slices joined; the auditor's Merge.
  Slices of rows joined, copied; the auditor's Merge.
  The auditor: what it knows; how it is made, how it turns to another audit, how many are left.
  The auditor turns to another audit; how many are left; all rows; an answer.
-/
import Derived.Lib.AppendZerosOnto
import Derived.Test.YtglcmlicfmmlpaaA4
import Derived.Test.YtglcmlicfmmlpaaSame
namespace Go.Proofs.Ytglcmlicfmmlpaa
open Go.RowKit
set_option linter.unusedSimpArgs false
set_option linter.unusedVariables false

theorem drop_take {L : List GRow} {a k : Nat} : L.take (a + k) = L.take a ++ (L.drop a).take k := by rw [← List.take_append_drop a (L.take (a + k)), List.take_take, Nat.min_eq_left (by omega), List.drop_take, Nat.add_sub_cancel_left]
set_option maxRecDepth 4000 in
set_option maxHeartbeats 2000000 in
theorem stableCmp_spec (F : HP) (v : Value) (n : Nat) (L : List GRow) (hn : n ≤ 1152921504606846976) :
    Spec Try.prog 132 [v, .int .i64 n, cmpV] [rq v n L] F (fun _ : Unit => True) (fun _ => .tuple #[]) (fun _ => [rq v n (isort L)]) := by
  intro ω w hh
  refine enter Try.func132 rfl Try.ntmps132 rfl hh ?_
  simp only [List.cons_append, List.nil_append, argsB]
  refine St.Q_sl fun A0 c0 hv hc hm hL => ?_
  subst hv
  obtain ⟨sv, hsv⟩ : ∃ sv, Value.slice A0 n c0 = sv := ⟨_, rfl⟩
  rw [hsv]
  refine sr ?_
  refine rr (rd_assign rfl) ?_
  refine nx ?_
  refine sr ?_
  refine rr (rd_move rfl) ?_
  refine rr (rd_assign rfl) ?_
  refine rr (rd_assign rfl) ?_
  refine nx ?_
  refine do_seq ?_
  refine do_block ?_
  refine do_lp (fun t : Nat => 20 * t ≤ n) (fun t => [(0, sv), (1, .int .i64 n), (2, cmpV), (6, .int .i64 ((20 : Nat) : Int)), (7, .int .i64 ((20 * t : Nat) : Int)), (8, .int .i64 ((20 * t + 20 : Nat) : Int))]) (fun t => [rq sv n (srtBy 20 (L.take (20 * t)) ++ L.drop (20 * t)), F]) (fun t => n - 20 * t) 0 (by omega) ?_ (hΓ := .cons (by rw [Nat.mul_zero, List.take_zero, srtBy_nil, List.drop_zero, List.nil_append]; exact .head) (.cons (by repeat (first | with_reducible exact Sel.head | apply Sel.tail)) .nil))
  intro t ht
  have hsl := srtBy_len (k := 20) (by omega) (L.take (20 * t)).length (L.take (20 * t)) (Nat.le_refl _)
  rw [List.length_take, Nat.min_eq_left (by omega)] at hsl
  refine do_seq ?_
  refine sr ?_
  refine rr (rd_move rfl) ?_
  refine rr (rd_move rfl) ?_
  refine rr (rd_le rfl rfl) ?_
  refine nx ?_
  first | refine do_condp rfl (fun h13 => ?_) (fun h13 => ?_) | refine do_cond rfl (fun h13 => ?_) (fun h13 => ?_)
  · have e1 : srtBy 20 (L.take (20 * t)) ++ L.drop (20 * t) = srtBy 20 (L.take (20 * t)) ++ (L.drop (20 * t)).take 20 ++ L.drop (20 * t + 20) := by
      rw [List.append_assoc, ← List.drop_drop, List.take_append_drop]
    rw [e1]
    refine do_skip ?_
    refine St.then_n ?_
    refine do_block ?_
    refine sr ?_
    refine rr (rd_move rfl) ?_
    refine rr (rd_move rfl) ?_
    refine rr (rd_move rfl) ?_
    refine rr (rd_move rfl) ?_
    refine rc (hs := insertion_spec _ sv n (20 * t) (20 * t + 20) (srtBy 20 (L.take (20 * t))) ((L.drop (20 * t)).take 20) (L.drop (20 * t + 20)) hsl (by rw [List.length_take, List.length_drop]; omega) (by omega) (by omega)) (k := ?_)
    rintro ⟨⟩ -
    try simp only [List.cons_append, List.nil_append]
    refine run_nil ?_
    refine St.kp [(0, _), (1, _), (2, _), (6, _), (8, _)] ?_
    refine St.then_n ?_
    refine sr ?_
    refine rr (rd_move rfl) ?_
    refine rr (rd_assign rfl) ?_
    refine nx ?_
    refine do_region ?_
    refine rr (rd_move rfl) ?_
    refine rr (rd_move rfl) ?_
    refine rr ((rd_addi rfl rfl).eq (ei (k := 20 * (t + 1) + 20) (by omega))) ?_
    refine rr (rd_assign rfl) ?_
    refine run_nil ?_
    refine St.kp [(0, _), (1, _), (2, _), (6, _), (7, _), (8, _)] ?_
    refine St.blk_n ?_
    refine St.then_n ?_
    have e2 : srtBy 20 (L.take (20 * t)) ++ isort ((L.drop (20 * t)).take 20) ++ L.drop (20 * t + 20) = srtBy 20 (L.take (20 * (t + 1))) ++ L.drop (20 * (t + 1)) := by
      rw [show 20 * (t + 1) = 20 * t + 20 by omega, drop_take, srtBy_app (by omega) t _ _ (by rw [List.length_take]; omega), srtBy_one (L := (L.drop (20 * t)).take 20) (by omega) (by rw [List.length_take]; omega)]
    rw [e2]
    exact loop_bk (t + 1) (by omega)
  · have e1 : srtBy 20 (L.take (20 * t)) ++ L.drop (20 * t) = srtBy 20 (L.take (20 * t)) ++ L.drop (20 * t) ++ [] := by simp
    rw [e1]
    refine do_exit ?_
    refine St.then_x ?_
    refine St.then_x ?_
    refine St.blk_s ?_
    refine St.then_n ?_
    refine sr ?_
    refine rr (rd_move rfl) ?_
    refine rr (rd_move rfl) ?_
    refine rr (rd_move rfl) ?_
    refine rr (rd_move rfl) ?_
    refine rc (hs := insertion_spec _ sv n (20 * t) n (srtBy 20 (L.take (20 * t))) (L.drop (20 * t)) [] hsl (by rw [List.length_drop]; omega) (Nat.le_refl _) (by omega)) (k := ?_)
    rintro ⟨⟩ -
    have e2 : srtBy 20 (L.take (20 * t)) ++ isort (L.drop (20 * t)) ++ [] = srtBy 20 L := by
      conv => rhs; rw [← List.take_append_drop (20 * t) L]
      rw [List.append_nil, srtBy_app (by omega) t _ _ (by rw [List.length_take]; omega), srtBy_one (L := L.drop (20 * t)) (by omega) (by rw [List.length_drop]; omega)]
    rw [e2]
    try simp only [List.cons_append, List.nil_append]
    refine run_nil ?_
    refine St.kp [(0, _), (1, _), (2, _), (6, _)] ?_
    refine St.then_n ?_
    refine do_block ?_
    refine do_lp (fun k : Nat => 0 < k ∧ k ≤ 2305843009213693952) (fun k => [(0, sv), (1, .int .i64 n), (2, cmpV), (6, .int .i64 k)]) (fun k => [rq sv n (srtBy k L), F]) (fun k => n - k) 20 (by omega) ?_
    rintro k ⟨hk0, hk1⟩
    refine do_seq ?_
    refine sr ?_
    refine rr (rd_move rfl) ?_
    refine rr (rd_move rfl) ?_
    refine rr (rd_lt rfl rfl) ?_
    refine nx ?_
    first | refine do_condp rfl (fun h30 => ?_) (fun h30 => ?_) | refine do_cond rfl (fun h30 => ?_) (fun h30 => ?_)
    · have hkn : k < n := by omega
      refine do_skip ?_
      refine St.then_n ?_
      refine do_block ?_
      refine sr ?_
      refine rr (rd_move rfl) ?_
      refine rr ((rd_muli rfl rfl).eq (ei (k := 2 * k) (by omega))) ?_
      refine rr (rd_assign rfl) ?_
      refine rr (rd_assign rfl) ?_
      refine run_nil ?_
      refine St.kp [(0, _), (1, _), (2, _), (6, _), (7, _), (8, _)] ?_
      refine St.then_n ?_
      refine do_seq ?_
      refine do_block ?_
      refine do_lp (fun t : Nat => 2 * k * t ≤ n) (fun t => [(0, sv), (1, .int .i64 n), (2, cmpV), (6, .int .i64 k), (7, .int .i64 ((2 * k * t : Nat) : Int)), (8, .int .i64 ((2 * k * t + 2 * k : Nat) : Int))]) (fun t => [rq sv n (srtBy (2 * k) (L.take (2 * k * t)) ++ srtBy k (L.drop (2 * k * t))), F]) (fun t => n - 2 * k * t) 0 (by omega) ?_ (hβ := ⟨rfl, rfl, rfl, rfl, rfl, by rw [Nat.mul_zero, Nat.zero_add]; rfl, trivial⟩) (hΓ := .cons (by rw [Nat.mul_zero, List.take_zero, srtBy_nil, List.drop_zero, List.nil_append]; exact .head) (.cons (by repeat (first | with_reducible exact Sel.head | apply Sel.tail)) .nil))
      intro t ht
      have hsl := srtBy_len (k := 2 * k) (by omega) (L.take (2 * k * t)).length (L.take (2 * k * t)) (Nat.le_refl _)
      rw [List.length_take, Nat.min_eq_left (by omega)] at hsl
      obtain ⟨a, ha⟩ : ∃ a, 2 * k * t = a := ⟨_, rfl⟩
      have hst : 2 * k * (t + 1) = a + 2 * k := by rw [Nat.mul_succ, ha]
      have hq : (L.take a).length = t * (2 * k) := by rw [List.length_take, ← ha, Nat.mul_comm]; rw [Nat.mul_comm] at ht; omega
      rw [ha] at ht hsl ⊢
      refine do_seq ?_
      refine sr ?_
      refine rr (rd_move rfl) ?_
      refine rr (rd_move rfl) ?_
      refine rr (rd_le rfl rfl) ?_
      refine nx ?_
      first | refine do_condp rfl (fun h35 => ?_) (fun h35 => ?_) | refine do_cond rfl (fun h35 => ?_) (fun h35 => ?_)
      · have e1 : srtBy (2 * k) (L.take a) ++ srtBy k (L.drop a) = srtBy (2 * k) (L.take a) ++ isort ((L.drop a).take k) ++ isort ((L.drop (a + k)).take k) ++ srtBy k (L.drop (a + 2 * k)) := by
          rw [srtBy_step hk0 (L := L.drop a) (by rw [List.length_drop]; omega), List.drop_drop, srtBy_step hk0 (L := L.drop (a + k)) (by rw [List.length_drop]; omega), List.drop_drop, show a + k + k = a + 2 * k by omega]
          simp
        rw [e1]
        refine do_skip ?_
        refine St.then_n ?_
        refine do_block ?_
        refine sr ?_
        refine rr (rd_move rfl) ?_
        refine rr (rd_move rfl) ?_
        refine rr (rd_move rfl) ?_
        refine rr (rd_move rfl) ?_
        refine rr ((rd_addi rfl rfl).eq (ei (k := a + k) (by omega))) ?_
        refine rr (rd_move rfl) ?_
        refine rr (rd_move rfl) ?_
        refine rc (hs := symMerge_spec (2 * k) _ sv n a (a + k) (a + 2 * k) (srtBy (2 * k) (L.take a)) (isort ((L.drop a).take k)) (isort ((L.drop (a + k)).take k)) (srtBy k (L.drop (a + 2 * k))) hsl (by rw [isort_len, List.length_take, List.length_drop]; omega) (by rw [isort_len, List.length_take, List.length_drop]; omega) (by omega) (by omega) (by rw [isort_len, List.length_take, List.length_drop]; omega) (by rw [isort_len, List.length_take, List.length_drop]; omega) (by rw [isort_len, isort_len, List.length_take, List.length_take, List.length_drop, List.length_drop]; omega) (isort_srt _) (isort_srt _)) (k := ?_)
        rintro ⟨⟩ -
        try simp only [List.cons_append, List.nil_append]
        refine run_nil ?_
        refine St.kp [(0, _), (1, _), (2, _), (6, _), (8, _)] ?_
        refine St.then_n ?_
        refine sr ?_
        refine rr (rd_move rfl) ?_
        refine rr (rd_assign rfl) ?_
        refine nx ?_
        refine do_region ?_
        refine rr (rd_move rfl) ?_
        refine rr (rd_move rfl) ?_
        refine rr ((rd_muli rfl rfl).eq (ei (k := 2 * k) (by omega))) ?_
        refine rr ((rd_addi rfl rfl).eq (ei (k := 2 * k * (t + 1) + 2 * k) (by omega))) ?_
        refine rr (rd_assign rfl) ?_
        refine run_nil ?_
        refine St.kp [(0, _), (1, _), (2, _), (6, _), (7, _), (8, _)] ?_
        refine St.blk_n ?_
        refine St.then_n ?_
        have e2 : srtBy (2 * k) (L.take a) ++ mrg (isort ((L.drop a).take k)) (isort ((L.drop (a + k)).take k)) ++ srtBy k (L.drop (a + 2 * k)) = srtBy (2 * k) (L.take (2 * k * (t + 1))) ++ srtBy k (L.drop (2 * k * (t + 1))) := by
          rw [isort_append, ← List.drop_drop (i := k) (j := a), ← drop_take, show k + k = 2 * k by omega, hst, drop_take (a := a), srtBy_app (by omega) t _ _ hq, srtBy_one (L := (L.drop a).take (2 * k)) (by omega) (by rw [List.length_take]; omega)]
        rw [e2]
        refine loop_bk (t + 1) (by omega) (hβ := ⟨rfl, rfl, rfl, rfl, by rw [hst]; rfl, rfl, trivial⟩)
      · have hrest : srtBy (2 * k) L = srtBy (2 * k) (L.take a) ++ isort (L.drop a) := by
          conv => lhs; rw [← List.take_append_drop a L]
          rw [srtBy_app (by omega) t _ _ hq, srtBy_one (L := L.drop a) (by omega) (by rw [List.length_drop]; omega)]
        refine do_exit ?_
        refine St.then_x ?_
        refine St.then_x ?_
        refine St.blk_s ?_
        refine St.then_n ?_
        refine do_seq ?_
        refine sr ?_
        refine rr (rd_move rfl) ?_
        refine rr (rd_move rfl) ?_
        refine rr ((rd_addi rfl rfl).eq (ei (k := a + k) (by omega))) ?_
        refine rr (rd_assign rfl) ?_
        refine run_nil ?_
        refine St.kp [(0, _), (1, _), (2, _), (6, _), (7, _), (9, _)] ?_
        refine St.then_n ?_
        refine sr ?_
        refine rr (rd_move rfl) ?_
        refine rr (rd_move rfl) ?_
        refine rr (rd_lt rfl rfl) ?_
        refine nx ?_
        first | refine do_condp rfl (fun h54 => ?_) (fun h54 => ?_) | refine do_cond rfl (fun h54 => ?_) (fun h54 => ?_)
        · have e1 : srtBy (2 * k) (L.take a) ++ srtBy k (L.drop a) = srtBy (2 * k) (L.take a) ++ isort ((L.drop a).take k) ++ isort (L.drop (a + k)) ++ [] := by
            rw [srtBy_step hk0 (L := L.drop a) (by rw [List.length_drop]; omega), List.drop_drop, srtBy_one (L := L.drop (a + k)) hk0 (by rw [List.length_drop]; omega)]
            simp
          rw [e1]
          refine do_region ?_
          refine rr (rd_move rfl) ?_
          refine rr (rd_move rfl) ?_
          refine rr (rd_move rfl) ?_
          refine rr (rd_move rfl) ?_
          refine rr (rd_move rfl) ?_
          refine rc (hs := symMerge_spec (2 * k) _ sv n a (a + k) n (srtBy (2 * k) (L.take a)) (isort ((L.drop a).take k)) (isort (L.drop (a + k))) [] hsl (by rw [isort_len, List.length_take, List.length_drop]; omega) (by rw [isort_len, List.length_drop]; omega) (Nat.le_refl _) (by omega) (by rw [isort_len, List.length_take, List.length_drop]; omega) (by rw [isort_len, List.length_drop]; omega) (by rw [isort_len, isort_len, List.length_take, List.length_drop, List.length_drop]; omega) (isort_srt _) (isort_srt _)) (k := ?_)
          rintro ⟨⟩ -
          rw [isort_append, ← List.drop_drop (i := k) (j := a), List.take_append_drop, List.append_nil, ← hrest]
          try simp only [List.cons_append, List.nil_append]
          refine run_nil ?_
          refine St.kp [(0, _), (1, _), (2, _), (6, _)] ?_
          refine St.then_n ?_
          refine do_region ?_
          refine rr (rd_move rfl) ?_
          refine rr ((rd_muli rfl rfl).eq (ei (k := 2 * k) (by omega))) ?_
          refine rr (rd_assign rfl) ?_
          refine run_nil ?_
          refine St.blk_n ?_
          refine St.then_n ?_
          exact loop_bk (2 * k) ⟨by omega, by omega⟩ (hμ := by omega)
        · rw [srtBy_one (k := k) (L := L.drop a) hk0 (by rw [List.length_drop]; omega), ← hrest]
          refine do_skip ?_
          refine St.then_n ?_
          refine do_region ?_
          refine rr (rd_move rfl) ?_
          refine rr ((rd_muli rfl rfl).eq (ei (k := 2 * k) (by omega))) ?_
          refine rr (rd_assign rfl) ?_
          refine run_nil ?_
          refine St.kp [(0, _), (1, _), (2, _), (6, _)] ?_
          refine St.blk_n ?_
          refine St.then_n ?_
          exact loop_bk (2 * k) ⟨by omega, by omega⟩ (hμ := by omega)
    · refine do_exit ?_
      refine St.then_x ?_
      refine St.then_x ?_
      refine St.blk_s ?_
      refine do_end0 Try.results132 ?_
      intro w hw
      rw [srtBy_one hk0 (by omega)] at hw
      exact ⟨(), trivial, rfl, hw.sb⟩
theorem sortStable_spec (F : HP) (v : Value) (n : Nat) (L : List GRow) (hn : n ≤ 1152921504606846976) :
    Spec Try.prog 104 [v, cmpV] [rq v n L] F (fun _ : Unit => True) (fun _ => .tuple #[]) (fun _ => [rq v n (isort L)]) := by
  intro ω w hh
  refine enter Try.func104 rfl Try.ntmps104 rfl hh ?_
  simp only [List.cons_append, List.nil_append, argsB]
  refine St.Q_sl fun A0 c0 hv hc hm hL => ?_
  subst hv
  refine do_region ?_
  refine rr (rd_move rfl) ?_
  refine rr (rd_move rfl) ?_
  refine rr (rd_len Try.underlying31 rfl) ?_
  refine rr (rd_move rfl) ?_
  refine rc (hs := stableCmp_spec _ _ n L hn) (k := ?_)
  rintro ⟨⟩ -
  try simp only [List.cons_append, List.nil_append]
  refine run_nil ?_
  refine St.kp [] ?_
  refine do_end0 Try.results104 ?_
  intro w hw
  exact ⟨(), trivial, rfl, hw.sb⟩
theorem growRow_spec (F : HP) (n : Nat) (hn : n ≤ 1099511627776) : Spec Try.prog 131 [.slice none 0 0, .int .i64 n] [] F (fun _ : Value => True) (fun v' => v') (fun v' => [rq v' 0 []]) := by
  intro ω w hh
  refine enter Try.func131 rfl Try.ntmps131 rfl hh ?_
  simp only [List.nil_append, argsB]
  refine sr ?_
  refine rr (rd_assign rfl) ?_
  refine nx ?_
  refine do_seq ?_
  refine sr ?_
  refine rr (rd_move rfl) ?_
  refine rr (rd_lt rfl rfl) ?_
  refine nx ?_
  refine do_condp rfl (fun h6 => absurd h6 (by omega)) (fun h6 => ?_)
  refine do_skip ?_
  refine St.then_n ?_
  refine do_seq ?_
  refine sr ?_
  refine rr (rd_move rfl) ?_
  refine rr (rd_move rfl) ?_
  refine rr (rd_cap Try.underlying31 rfl) ?_
  refine rr (rd_move rfl) ?_
  refine rr (rd_len Try.underlying31 rfl) ?_
  refine rr (rd_subi rfl rfl) ?_
  refine rr (rd_subi rfl rfl) ?_
  refine rr (rd_assign rfl) ?_
  refine run_nil ?_
  refine St.kp [(0, _), (1, _)] ?_
  refine St.then_n ?_
  refine sr ?_
  refine rr (rd_move rfl) ?_
  refine rr (rd_gt rfl rfl) ?_
  refine nx ?_
  first | refine do_condp rfl (fun h16 => ?_) (fun h16 => ?_) | refine do_cond rfl (fun h16 => ?_) (fun h16 => ?_)
  · refine do_region ?_
    refine rr (rd_move rfl) ?_
    refine rr (rd_move rfl) ?_
    refine rr (rd_cap Try.underlying31 rfl) ?_
    refine rr ((rd_slice (i := 0) (j := ((0 : Nat) : Int)) Try.underlying31 ei108 rfl rfl rfl (by omega) (by omega) (by omega)).eq (show _ = Value.slice none 0 0 from rfl)) ?_
    refine rr (rd_move rfl) ?_
    refine r_am (kq := .i64) (i := (n : Int) - (((0 : Nat) : Int) - ((0 : Nat) : Int))) Try.underlying31 Try.underlying3 ei108 n (by omega) (by omega) (by omega) (by omega) (fun g c cs h1 h2 h3 => ?_)
    refine rr (rd_move rfl) ?_
    refine rr (rd_len Try.underlying31 rfl) ?_
    refine rr ((rd_slice (i := 0) (j := ((0 : Nat) : Int)) Try.underlying31 ei108 rfl rfl rfl (by omega) (by omega) (by omega)).eq (show _ = Value.slice (some ⟨g, 0, none⟩) 0 c by rw [show (Int.toNat 0) = 0 from rfl, subA_zero]; rfl)) ?_
    refine rr (rd_assign rfl) ?_
    refine run_nil ?_
    refine St.kp [(0, _)] ?_
    refine St.then_n ?_
    refine sr ?_
    refine rr (rd_move rfl) ?_
    refine rr (rd_assign rfl) ?_
    refine nx ?_
    refine do_ret ?_
    refine do_ret1 Try.results131 (res_tmp rfl) ?_
    intro w hw
    first
      | exact ⟨.slice (some ⟨g, 0, none⟩) 0 c, trivial, rfl, Holds.ent (P := pts g 108 cs) (fun h hp => ⟨rfl, pts_own' (cs := []) (Nat.zero_le _) h2 h3 (by simp) h hp⟩) hw.sb⟩
      | exact ⟨.slice none 0 0, trivial, rfl, Holds.ent (fun h hp => ⟨rfl, hp⟩) (Holds.own_nil hw.sb)⟩
  · refine do_skip ?_
    refine St.then_n ?_
    refine sr ?_
    refine rr (rd_move rfl) ?_
    refine rr (rd_assign rfl) ?_
    refine run_nil ?_
    refine St.kp [(4, _)] ?_
    refine St.then_n ?_
    refine do_ret ?_
    refine do_ret1 Try.results131 (res_tmp rfl) ?_
    intro w hw
    first
      | exact ⟨.slice (some ⟨g, 0, none⟩) 0 c, trivial, rfl, Holds.ent (P := pts g 108 cs) (fun h hp => ⟨rfl, pts_own' (cs := []) (Nat.zero_le _) h2 h3 (by simp) h hp⟩) hw.sb⟩
      | exact ⟨.slice none 0 0, trivial, rfl, Holds.ent (fun h hp => ⟨rfl, hp⟩) (Holds.own_nil hw.sb)⟩
/-- Slices of rows that can be read. -/
abbrev rowsOf (LL : List (Value × List GRow)) : List GRow := LL.flatMap (·.2)
def VwLL (F : HP) (v : Value) (LL : List (Value × List GRow)) : Prop := Vw F v 1 LL.length (LL.map (·.1)) ∧ ∀ x ∈ LL, Vw F x.1 2 x.2.length (x.2.flatMap rowC)
theorem VwLL.sep {Γ Γ' : List HP} {X : HP} {v : Value} {LL : List (Value × List GRow)} (h : VwLL X v LL) (p : Sel X Γ Γ') : VwLL (Sep Γ) v LL := ⟨h.1.sep p, fun x hx => (h.2 x hx).sep p⟩
theorem take_get {α : Type} {l : List α} {i : Nat} {x : α} (h : l[i]? = some x) : l.take (i + 1) = l.take i ++ [x] := by rw [List.take_add_one, h]; rfl
theorem rowsOf_le (LL : List (Value × List GRow)) (i : Nat) : (rowsOf (LL.take i)).length ≤ (rowsOf LL).length := flat_take_le _ LL i
set_option maxHeartbeats 1000000 in
theorem concat_spec (F : HP) (v : Value) (LL : List (Value × List GRow)) (hV : VwLL F v LL) (hn : (rowsOf LL).length ≤ 1099511627776) :
    Spec Try.prog 103 [v] [] F (fun _ : Value => True) (fun v' => v') (fun v' => [rq v' (rowsOf LL).length (rowsOf LL)]) := by
  intro ω w hh
  refine enter Try.func103 rfl Try.ntmps103 rfl hh ?_
  simp only [List.nil_append, argsB]
  obtain ⟨hV1, hV2⟩ := hV
  refine St.vw hV1 .head (fun A c hv hc hm _ => ?_)
  subst hv
  have hll : LL.length ≤ 9223372036854775807 := by simp only [maxLen] at hm; omega
  refine sr ?_
  refine rr (rd_assign rfl) ?_
  refine nx ?_
  refine sr ?_
  refine rr (rd_assign rfl) ?_
  refine nx ?_
  refine do_seq ?_
  refine sr ?_
  refine rr (rd_move rfl) ?_
  refine rr (rd_len Try.underlying127 rfl) ?_
  refine rr (rd_move rfl) ?_
  refine nx ?_
  refine do_block ?_
  refine do_lp (fun i : Nat => i ≤ LL.length) (fun i => [(0, .slice A LL.length c), (3, .int .i64 ((rowsOf (LL.take i)).length : Nat)), (9, .slice A LL.length c), (10, .int .i64 LL.length), (11, .int .i64 i)]) (fun _ => [F]) (fun i => LL.length - i) 0 (Nat.zero_le _) ?_
  intro i hi
  refine sr ?_
  refine rr (rd_lt rfl rfl) ?_
  refine nx ?_
  refine do_seq ?_
  first | refine do_condp rfl (fun h12 => ?_) (fun h12 => ?_) | refine do_cond rfl (fun h12 => ?_) (fun h12 => ?_)
  · have hx := List.getElem?_eq_getElem (l := LL) (i := i) (by omega)
    have hxm := List.mem_of_getElem? hx
    generalize LL[i]'_ = x at hx hxm
    have hle := rowsOf_le LL (i + 1)
    have htk : rowsOf (LL.take (i + 1)) = rowsOf (LL.take i) ++ x.2 := by rw [take_get hx, rowsOf, List.flatMap_append]; simp
    rw [htk, List.length_append] at hle
    have hcell : (LL.map (·.1))[i]? = some x.1 := by rw [List.getElem?_map, hx]; rfl
    have hxv := hV2 x hxm
    obtain ⟨xv, xl⟩ := x
    dsimp only at hxv htk hle hcell
    refine St.vw hxv (by repeat (first | with_reducible exact Sel.head | apply Sel.tail)) (fun A1 c1 hv1 _ _ _ => ?_)
    subst hv1
    refine St.vw_some hV1 (by repeat (first | with_reducible exact Sel.head | apply Sel.tail)) (by omega) (fun g of hg _ _ => ?_)
    subst hg
    refine do_skip ?_
    refine St.then_n ?_
    refine do_seq ?_
    refine do_block ?_
    refine sr ?_
    refine rr ((rd_indexAddr Try.underlying127 ei31 rfl rfl (by omega) (by omega)).eq (show _ = Value.pointer (some ⟨g, of + i, none⟩) by simp)) ?_
    refine rr (rd_ld rfl row31 (Vw.cells1 hV1 (by repeat (first | with_reducible exact Sel.head | apply Sel.tail)) (by omega) hcell)) ?_
    refine rr (rd_assign rfl) ?_
    refine nx ?_
    refine sr ?_
    refine rr (rd_move rfl) ?_
    refine rr (rd_move rfl) ?_
    refine rr (rd_len Try.underlying31 rfl) ?_
    refine rr ((rd_addi rfl rfl).eq (ei (k := (rowsOf (LL.take (i + 1))).length) (by rw [htk, List.length_append]; omega))) ?_
    refine rr (rd_assign rfl) ?_
    refine run_nil ?_
    refine St.kp [(0, _), (3, _), (9, _), (10, _), (11, _)] ?_
    refine St.then_n ?_
    refine sr ?_
    refine rr (rd_move rfl) ?_
    refine rr (rd_lt rfl rfl) ?_
    refine nx ?_
    refine do_condp rfl (fun h20 => absurd h20 (by omega)) (fun h20 => ?_)
    refine do_skip ?_
    refine St.blk_n ?_
    refine St.then_n ?_
    refine do_region ?_
    refine rr (rd_addi rfl rfl) ?_
    refine rr (rd_move rfl) ?_
    refine nx ?_
    exact loop_bk (i + 1) (by omega) (hμ := by omega)
  · have hend : rowsOf (LL.take i) = rowsOf LL := by rw [List.take_of_length_le (by omega)]
    rw [hend]
    refine do_exit ?_
    refine St.then_x ?_
    refine St.then_x ?_
    refine St.blk_s ?_
    refine St.then_n ?_
    refine sr ?_
    refine rr (rd_move rfl) ?_
    refine rc (hs := growRow_spec _ (rowsOf LL).length hn) (k := ?_)
    rintro v1 -
    try simp only [List.cons_append, List.nil_append]
    refine rr (rd_assign rfl) ?_
    refine run_nil ?_
    refine St.kp [(0, _), (6, _)] ?_
    refine St.then_n ?_
    refine do_seq ?_
    refine sr ?_
    refine rr (rd_move rfl) ?_
    refine rr (rd_len Try.underlying127 rfl) ?_
    refine rr (rd_move rfl) ?_
    refine nx ?_
    refine do_block ?_
    refine do_lp (fun y : Nat × Value => y.1 ≤ LL.length) (fun y => [(6, y.2), (25, .slice A LL.length c), (26, .int .i64 LL.length), (27, .int .i64 y.1)]) (fun y => [rq y.2 (rowsOf (LL.take y.1)).length (rowsOf (LL.take y.1)), F]) (fun y => LL.length - y.1) (0, v1) (Nat.zero_le _) ?_ (hΓ := .cons .head (.cons (by repeat (first | with_reducible exact Sel.head | apply Sel.tail)) .nil))
    rintro ⟨i2, v2⟩ hi2
    dsimp only at hi2 ⊢
    refine sr ?_
    refine rr (rd_lt rfl rfl) ?_
    refine nx ?_
    refine do_seq ?_
    first | refine do_condp rfl (fun h28 => ?_) (fun h28 => ?_) | refine do_cond rfl (fun h28 => ?_) (fun h28 => ?_)
    · have hx := List.getElem?_eq_getElem (l := LL) (i := i2) (by omega)
      have hxm := List.mem_of_getElem? hx
      generalize LL[i2]'_ = x at hx hxm
      have hle := rowsOf_le LL (i2 + 1)
      have htk : rowsOf (LL.take (i2 + 1)) = rowsOf (LL.take i2) ++ x.2 := by rw [take_get hx, rowsOf, List.flatMap_append]; simp
      rw [htk, List.length_append] at hle
      have hcell : (LL.map (·.1))[i2]? = some x.1 := by rw [List.getElem?_map, hx]; rfl
      have hxv := hV2 x hxm
      refine St.vw_some hV1 (by repeat (first | with_reducible exact Sel.head | apply Sel.tail)) (by omega) (fun g of hg _ _ => ?_)
      subst hg
      refine do_skip ?_
      refine St.then_n ?_
      refine do_seq ?_
      refine do_block ?_
      refine sr ?_
      refine rr ((rd_indexAddr Try.underlying127 ei31 rfl rfl (by omega) (by omega)).eq (show _ = Value.pointer (some ⟨g, of + i2, none⟩) by simp)) ?_
      refine rr (rd_ld rfl row31 (Vw.cells1 hV1 (by repeat (first | with_reducible exact Sel.head | apply Sel.tail)) (by omega) hcell)) ?_
      refine rr (rd_assign rfl) ?_
      refine nx ?_
      refine do_region ?_
      refine rr (rd_move rfl) ?_
      refine rr (rd_move rfl) ?_
      refine r_apQ (n := (rowsOf (LL.take i2)).length) rowC_len rowC_one Try.underlying31 ei108 (X := F) hxv rfl (by omega) (by omega) (by omega) (fun v3 _ => ?_)
      rw [← List.length_append, ← htk]
      refine rr (rd_assign rfl) ?_
      refine run_nil ?_
      refine St.kp [(6, _), (25, _), (26, _), (27, _)] ?_
      refine St.blk_n ?_
      refine St.then_n ?_
      refine do_region ?_
      refine rr (rd_addi rfl rfl) ?_
      refine rr (rd_move rfl) ?_
      refine nx ?_
      exact loop_bk (i2 + 1, v3) (by dsimp only; omega) (hμ := by dsimp only; omega)
    · refine do_exit ?_
      refine St.then_x ?_
      refine St.then_x ?_
      refine St.blk_s ?_
      refine St.then_n ?_
      refine sr ?_
      refine rr (rd_move rfl) ?_
      refine rr (rd_assign rfl) ?_
      refine run_nil ?_
      refine St.kp [(2, _)] ?_
      refine St.then_n ?_
      refine do_ret ?_
      refine do_ret1 Try.results103 (res_tmp rfl) ?_
      intro w hw
      rw [show rowsOf (LL.take i2) = rowsOf LL by rw [List.take_of_length_le (by omega)]] at hw
      exact ⟨v2, trivial, rfl, hw.sb⟩
theorem merge_spec (F : HP) (v : Value) (LL : List (Value × List GRow)) (hV : VwLL F v LL) (hn : (rowsOf LL).length ≤ 1099511627776) :
    Spec Try.prog 64 [v] [] F (fun _ : Value => True) (fun v' => v') (fun v' => [rq v' (rowsOf LL).length (isort (rowsOf LL))]) := by
  intro ω w hh
  refine enter Try.func64 rfl Try.ntmps64 rfl hh ?_
  simp only [List.nil_append, argsB]
  refine sr ?_
  refine rr (rd_assign rfl) ?_
  refine nx ?_
  refine sr ?_
  refine rr (rd_move rfl) ?_
  refine rc (hs := concat_spec _ v LL (hV.sep (by repeat (first | with_reducible exact Sel.head | apply Sel.tail))) hn) (k := ?_)
  rintro v1 -
  try simp only [List.cons_append, List.nil_append]
  refine rr (rd_assign rfl) ?_
  refine run_nil ?_
  refine St.kp [(3, _)] ?_
  refine St.then_n ?_
  refine sr ?_
  refine rr (rd_move rfl) ?_
  refine rc (hs := sortStable_spec _ v1 _ (rowsOf LL) (by omega)) (k := ?_)
  rintro ⟨⟩ -
  try simp only [List.cons_append, List.nil_append]
  refine nx ?_
  refine sr ?_
  refine rr (rd_move rfl) ?_
  refine rr (rd_assign rfl) ?_
  refine run_nil ?_
  refine St.kp [(2, _)] ?_
  refine St.then_n ?_
  refine do_ret ?_
  refine do_ret1 Try.results64 (res_tmp rfl) ?_
  intro w hw
  exact ⟨v1, trivial, rfl, hw.sb⟩
theorem cloneRow_spec (F : HP) (A : Option Addr) (n c : Nat) (L : List GRow) (hF : Vw F (.slice A n c) 2 n (L.flatMap rowC)) (hn : L.length = n) (hl : n ≤ 1099511627776) :
    Spec Try.prog 102 [.slice A n c] [] F (fun _ : Value => True) (fun v' => v') (fun v' => [rq v' n L]) := by
  intro ω w hh
  refine enter Try.func102 rfl Try.ntmps102 rfl hh ?_
  simp only [List.nil_append, argsB]
  refine sr ?_
  refine rr (rd_assign rfl) ?_
  refine nx ?_
  refine do_seq ?_
  refine sr ?_
  refine rr (rd_move rfl) ?_
  refine rr (rd_sl_eq_nil Try.underlying31 rfl rfl) ?_
  refine nx ?_
  first | refine do_condp rfl (fun h4 => ?_) (fun h4 => ?_) | refine do_cond rfl (fun h4 => ?_) (fun h4 => ?_)
  · obtain ⟨rfl, hA0⟩ : A = none ∧ True := by cases A <;> simp_all
    refine sr ?_
    refine rr (rd_assign rfl) ?_
    refine nx ?_
    refine do_ret ?_
    refine St.then_r ?_
    refine do_ret1 Try.results102 (res_tmp rfl) ?_
    intro w hw
    obtain ⟨h, l, hf⟩ := hw.get (P := F) (by repeat (first | with_reducible exact Sel.head | apply Sel.tail))
    obtain ⟨A', c', he, h1, h2, h3, h4⟩ := hF h hf
    cases he
    have h0 : n = 0 := by
      rcases Nat.eq_zero_or_pos n with h0 | h0
      · exact h0
      · obtain ⟨g, o, row, T, fr, hA, _⟩ := h4 h0
        cases hA
    subst h0
    obtain rfl := List.eq_nil_of_length_eq_zero hn
    exact ⟨.slice none 0 0, trivial, rfl, Holds.ent (fun h hp => ⟨rfl, hp⟩) (Holds.own_nil hw.sb)⟩
  · refine do_skip ?_
    refine St.then_n ?_
    refine sr ?_
    refine r_bs0 (f := rowC) Try.underlying31 ei108 (fun g => ?_)
    refine rr (rd_move rfl) ?_
    refine r_apQ (n := 0) rowC_len rowC_one Try.underlying31 ei108 (X := F) hF hn (by omega) (by omega) (by omega) (fun v3 _ => ?_)
    rw [Nat.zero_add, List.nil_append]
    refine rr (rd_assign rfl) ?_
    refine run_nil ?_
    refine St.kp [(2, _)] ?_
    refine St.then_n ?_
    refine do_ret ?_
    refine do_ret1 Try.results102 (res_tmp rfl) ?_
    intro w hw
    exact ⟨_, trivial, rfl, hw.sb⟩
/-- A shard: has it answered, and its rows. -/
structure One where
  is_ : Bool
  A : Option Addr
  c : Nat
  rows : List GRow
abbrev One.v (x : One) : Value := .slice x.A x.rows.length x.c
abbrev oneC (x : One) : List Value := [.bool x.is_, x.v]
def one0 : One := ⟨false, none, 0, []⟩
theorem oneC_len (x : One) : (oneC x).length = 2 := rfl
theorem oneC_one (x : One) : (oneC x).all (·.oneCell') = true := rfl
def rowsAll (L : List One) : HP := Sep (L.map fun x => rq x.v x.rows.length x.rows)
structure AuS where
  n : Int
  phase : Int
  all : Bool
  L : List One
def auO (r : Nat) (s : AuS) : HP := fun h => ∃ g N, Sep [pts r 162 [.int .i64 s.n, .int .i64 s.phase, .bool s.all, .slice (some ⟨g, 0, none⟩) N N], ownQ oneC 170 2 (.slice (some ⟨g, 0, none⟩) N N) N s.L, rowsAll s.L] h
section
variable {ω : Amb} {m : Nat} {ds : List Deferred} {Γ Γ1 : List HP} {β : List (Nat × Value)} {K : Act → World → Prop} {r : Nat} {s : AuS}
theorem St.au_open (h : ∀ g N, N = s.L.length → St ω m ds (pts r 162 [.int .i64 s.n, .int .i64 s.phase, .bool s.all, .slice (some ⟨g, 0, none⟩) N N] :: ownQ oneC 170 2 (.slice (some ⟨g, 0, none⟩) N N) N s.L :: rowsAll s.L :: Γ) β K) : St ω m ds (auO r s :: Γ) β K := by
  unfold auO
  refine St.ex fun g => St.ex fun N => St.flat (St.sel (P := ownQ oneC 170 2 (.slice (some ⟨g, 0, none⟩) N N) N s.L) (.tail .head) (St.Q_sl fun A c hv h1 h2 h3 => ?_))
  exact St.perm (.swap ..) (h g N h3.symm)
theorem Holds.au_shut {w : World} (s : AuS) (g N : Nat) (h : Holds ω Γ w) (p : Pick [pts r 162 [.int .i64 s.n, .int .i64 s.phase, .bool s.all, .slice (some ⟨g, 0, none⟩) N N], ownQ oneC 170 2 (.slice (some ⟨g, 0, none⟩) N N) N s.L, rowsAll s.L] Γ Γ1 := by repeat (first | exact Pick.nil | apply Pick.cons (by repeat (first | with_reducible exact Sel.head | apply Sel.tail)))) : Holds ω (auO r s :: Γ1) w :=
  Holds.ent (fun _ h => ⟨g, N, h⟩) (Holds.flat.2 (Holds.unpick (h.pick p)))
theorem St.au_shut (s : AuS) (g N : Nat) (h : St ω m ds (auO r s :: Γ1) β K) (p : Pick [pts r 162 [.int .i64 s.n, .int .i64 s.phase, .bool s.all, .slice (some ⟨g, 0, none⟩) N N], ownQ oneC 170 2 (.slice (some ⟨g, 0, none⟩) N N) N s.L, rowsAll s.L] Γ Γ1 := by repeat (first | exact Pick.nil | apply Pick.cons (by repeat (first | with_reducible exact Sel.head | apply Sel.tail)))) : St ω m ds Γ β K := fun a w b c =>
  h a w (Holds.au_shut s g N b p) c
/-- The same, where it lies told. -/
abbrev auG (r g N : Nat) (s : AuS) : List HP := [pts r 162 [.int .i64 s.n, .int .i64 s.phase, .bool s.all, .slice (some ⟨g, 0, none⟩) N N], ownQ oneC 170 2 (.slice (some ⟨g, 0, none⟩) N N) N s.L, rowsAll s.L]
theorem Holds.au_open {w : World} (h : Holds ω (auO r s :: Γ) w) : ∃ g N, N = s.L.length ∧ Holds ω (auG r g N s ++ Γ) w := by
  obtain ⟨g, h1⟩ := Sep.ex h.2
  obtain ⟨N, h2⟩ := Sep.ex h1
  have h3 : Holds ω (auG r g N s ++ Γ) w := Holds.flat.1 ⟨h.1, h2⟩
  obtain ⟨p, _, hq, _⟩ := h3.get (P := ownQ oneC 170 2 (.slice (some ⟨g, 0, none⟩) N N) N s.L) (.tail .head)
  exact ⟨g, N, hq.symm, h3⟩
/-- One cell of an element. -/
theorem flat_set1 {α : Type} {f : α → List Value} {k : Nat} (hk : ∀ x, (f x).length = k) {l : List α} {i j : Nat} {x x' : α} {u : Value} (hx : l[i]? = some x) (hj : j < k) (hf : f x' = (f x).set j u) : (l.flatMap f).set (i * k + j) u = (l.set i x').flatMap f := by
  have hi := (List.getElem?_eq_some_iff.1 hx).1
  rw [← flat_set hk x' hi, hf]
  have e : l.flatMap f = (l.flatMap f).take (i * k) ++ (f x ++ (l.flatMap f).drop ((i + 1) * k)) := by
    conv => lhs; rw [← List.take_append_drop (i * k) (l.flatMap f)]
    congr 1
    rw [← flat_at hk hx, Nat.succ_mul, ← List.drop_drop, List.take_append_drop]
  have hl : ((l.flatMap f).take (i * k)).length = i * k := by
    rw [List.length_take, flat_len hk]
    have : i * k ≤ l.length * k := Nat.mul_le_mul_right _ (by omega)
    omega
  conv => lhs; rw [e]
  rw [List.set_append_right _ _ (by omega), hl, Nat.add_sub_cancel_left, List.set_append_left _ _ (by rw [hk]; exact hj)]
  unfold setL
  rw [List.length_set, hk, Nat.succ_mul, List.append_assoc]
theorem r_stQ1 {P : Program} {α : Type} {f : α → List Value} {L : List α} {T k n c g : Nat} {x y : Operand} {r : Option Nat} {ops : Array Oper} {Q : Exit → Act → World → Prop} {rest : List Oper} {t ty : TypeId} {pos : String} {af : Array Edge} {gd : Option (Nat × Bool)} {b : Bool} {u : Value} {Γ' : List HP} (hk : ∀ x, (f x).length = k) {z z' : α} (i j : Nat) (hz : L[i]? = some z) (hj : j < k) (hf : f z' = (f z).set j u) (hT : rowOf P t = some (1, b)) (h1 : u.oneCell' = true)
    (kk : St ω m ds (ownQ f T k (.slice (some ⟨g, 0, none⟩) n c) n (L.set i z') :: Γ') β (Run P r ops Q rest)) (hx : ev β x = some (.pointer (some ⟨g, 0 + i * k + j, none⟩)) := by exact rfl) (hy : ev β y = some u := by exact rfl)
    (p : Sel (ownQ f T k (.slice (some ⟨g, 0, none⟩) n c) n L) Γ Γ' := by repeat (first | with_reducible exact Sel.head | apply Sel.tail)) (hw : wants ops β gd = some true := by exact rfl) :
    St ω m ds Γ β (Run P r ops Q (⟨none, .store t x y, ty, pos, af, gd⟩ :: rest)) := by
  refine St.sel p fun a w hh hb => ?_
  obtain ⟨ba, p1, p2, l1, l2, ap, ⟨hl, hq⟩, hr⟩ := id hh
  have hi := (List.getElem?_eq_some_iff.1 hz).1
  rw [Nat.zero_add] at hx
  refine run_store_own hw hx hy .head hT h1 (by
    rw [flat_len hk]
    have : (i + 1) * k ≤ L.length * k := Nat.mul_le_mul_right _ (by omega)
    rw [Nat.succ_mul] at this
    omega) ?_ a w ⟨ba, p1, p2, l1, l2, ap, hq, hr⟩ hb
  rw [flat_set1 hk hz hj hf]
  exact St.ent (fun h hp => ⟨by rw [List.length_set]; exact hl, hp⟩) kk
end
def reset (x : One) : One := { x with is_ := false }
theorem rowsAll_reset (L : List One) : rowsAll (L.map reset) = rowsAll L := by unfold rowsAll; rw [List.map_map]; rfl
theorem rowsAll_zero {ω : Amb} {Γ : List HP} {w : World} : ∀ n : Nat, Holds ω Γ w → Holds ω (rowsAll (List.replicate n one0) :: Γ) w
  | 0, h => ⟨h.1, fun _ => none, Part.of w, (fun _ _ e => by cases e), Part.le_refl _, (fun _ => .inl rfl), trivial, h.2⟩
  | n + 1, h => by
    have h1 := Holds.flat.1 (rowsAll_zero n h)
    have h2 : Holds ω (rq (.slice none 0 0) 0 [] :: ((List.replicate n one0).map (fun x => rq x.v x.rows.length x.rows) ++ Γ)) w := (Holds.own_nil h1).ent fun h hp => ⟨rfl, hp⟩
    exact (Holds.flat (Γ := (List.replicate (n + 1) one0).map fun x => rq x.v x.rows.length x.rows)).2 h2
def knowS (s : AuS) (n ph : Int) : AuS := if s.n ≠ n then ⟨n, ph, false, List.replicate s.L.length one0⟩ else if s.phase ≠ ph then ⟨n, ph, s.all, s.L.map reset⟩ else s
theorem knowS_len (s : AuS) (n ph : Int) : (knowS s n ph).L.length = s.L.length := by
  unfold knowS
  split
  · simp
  · split
    · simp
    · rfl
theorem auNew_spec (F : HP) (k : Int) : Spec Try.prog 50 [.int .i64 k] [] F (fun _ : Nat => True) (fun r => .pointer (some ⟨r, 0, none⟩)) (fun r => [auO r ⟨0, 0, false, List.replicate (if k < 1 ∨ 3 < k then 1 else k.toNat) one0⟩]) := by
  intro ω w hh
  refine enter Try.func50 rfl Try.ntmps50 rfl hh ?_
  simp only [List.nil_append, argsB]
  obtain ⟨m, hm⟩ : ∃ m, (if k < 1 ∨ 3 < k then 1 else k.toNat) = m := ⟨_, rfl⟩
  rw [hm]
  have hm3 : m ≤ 3 := by rw [← hm]; split <;> omega
  refine sr ?_
  refine rr (rd_assign rfl) ?_
  refine nx ?_
  refine do_seq ?_
  refine do_seq ?_
  refine do_cut (fun z : Bool => z = decide (k < 1 ∨ 3 < k)) (fun z => [(0, .int .i64 k), (8, .bool z)]) (fun _ => [F]) (fun K hK => ?_) ?_
  · by_cases hA : k < 1
    · refine do_region ?_
      refine rr (rd_move rfl) ?_
      first | refine rr ((rd_lt rfl rfl).eq (congrArg Value.bool (decide_eq_true (by omega)))) ?_ | refine rr ((rd_lt rfl rfl).eq (congrArg Value.bool (decide_eq_false (by omega)))) ?_
      refine rr (rd_move rfl) ?_
      first | refine sk ?_ | (refine rr (rd_move rfl) ?_)
      first | refine sk ?_ | (refine rr (rd_gt rfl rfl) ?_)
      refine rr (rd_pick rfl rfl) ?_
      refine run_nil ?_
      refine St.kp [(0, _), (8, _)] ?_
      refine St.then_n ?_
      exact St.kq [(0, _), (8, _)] (h := hK _ (by first | exact (decide_eq_true (by omega)).symm | exact decide_eq_decide.2 (by omega)))
    · refine do_region ?_
      refine rr (rd_move rfl) ?_
      first | refine rr ((rd_lt rfl rfl).eq (congrArg Value.bool (decide_eq_true (by omega)))) ?_ | refine rr ((rd_lt rfl rfl).eq (congrArg Value.bool (decide_eq_false (by omega)))) ?_
      refine rr (rd_move rfl) ?_
      first | refine sk ?_ | (refine rr (rd_move rfl) ?_)
      first | refine sk ?_ | (refine rr (rd_gt rfl rfl) ?_)
      refine rr (rd_pick rfl rfl) ?_
      refine run_nil ?_
      refine St.kp [(0, _), (8, _)] ?_
      refine St.then_n ?_
      exact St.kq [(0, _), (8, _)] (h := hK _ (by first | exact (decide_eq_true (by omega)).symm | exact decide_eq_decide.2 (by omega)))
  rintro z hz
  refine do_cut (fun i : Int => i = m) (fun i => [(0, .int .i64 i)]) (fun _ => [F]) (fun K hK => ?_) ?_
  · first | refine do_condp rfl (fun h8 => ?_) (fun h8 => ?_) | refine do_cond rfl (fun h8 => ?_) (fun h8 => ?_)
    · have h1 := of_decide_eq_true (hz.symm.trans h8)
      rw [if_pos h1] at hm
      refine do_region ?_
      refine rr (rd_assign rfl) ?_
      refine nx ?_
      first
        | exact St.kp [(0, _)] (hK 1 (by omega))
        | exact St.kp [(0, _)] (hK k (by omega))
    · have h1 := of_decide_eq_false (hz.symm.trans h8)
      rw [if_neg h1] at hm
      refine do_skip ?_
      refine St.then_n ?_
      first
        | exact St.kp [(0, _)] (hK 1 (by omega))
        | exact St.kp [(0, _)] (hK k (by omega))
  rintro i hi
  refine sr ?_
  refine rr (rd_move rfl) ?_
  refine r_mk Try.underlying160 ei170 m hi (by omega) (by omega) (fun g => ?_)
  rw [show (Value.agg #[Value.bool false, Value.slice none 0 0]).cells.toList = oneC one0 from rfl]
  refine rr (rd_bd [_, _, _, _] zero162 plc162) ?_
  refine r_bx fun b12 => ?_
  refine rr (rd_assign rfl) ?_
  refine run_nil ?_
  refine St.kp [(2, _)] ?_
  refine St.then_n ?_
  refine do_ret ?_
  refine do_ret1 Try.results50 (res_tmp rfl) ?_
  intro w hw
  have e : (List.replicate m (oneC one0)).flatten = (List.replicate m one0).flatMap oneC := by rw [List.flatMap_replicate]
  rw [e] at hw
  have hl : ((List.replicate m one0).flatMap oneC).length = m * 2 := by rw [flat_len oneC_len, List.length_replicate]
  have h1 := (hw.sel (P := pts g 170 ((List.replicate m one0).flatMap oneC)) (by repeat (first | with_reducible exact Sel.head | apply Sel.tail))).ent (Q := ownQ oneC 170 2 (.slice (some ⟨g, 0, none⟩) m m) m (List.replicate m one0)) (fun h hp => ⟨List.length_replicate, by
    have := pts_own' (k := 2) (n := m) (c := m) (tail := []) (Nat.le_refl _) (by simp [maxLen]; omega) (by rw [List.append_nil]; exact hl) hl h (by rw [List.append_nil]; exact hp)
    exact this⟩)
  have h2 := rowsAll_zero m h1
  exact ⟨b12, trivial, rfl, (Holds.au_shut ⟨0, 0, false, List.replicate m one0⟩ g m h2).sb⟩
def kindP (ph : Int) : Int := if ph = 1 then 6 else if ph = 2 then 7 else 0
theorem kind_spec (F : HP) (ph : Int) : Spec Try.prog 101 [.int .i64 ph] [] F (fun _ : Unit => True) (fun _ => .int .i64 (kindP ph)) (fun _ => []) := by
  intro ω w hh
  refine enter Try.func101 rfl Try.ntmps101 rfl hh ?_
  simp only [List.nil_append, argsB]
  refine sr ?_
  refine rr (rd_assign rfl) ?_
  refine nx ?_
  refine do_seq ?_
  refine sr ?_
  refine rr (rd_move rfl) ?_
  refine nx ?_
  refine do_block ?_
  refine sr ?_
  refine rr (rd_eq rfl rfl) ?_
  refine rr (rd_assign rfl) ?_
  refine nx ?_
  first | refine do_condp rfl (fun h4 => ?_) (fun h4 => ?_) | refine do_cond rfl (fun h4 => ?_) (fun h4 => ?_)
  · refine sr ?_
    refine rr (rd_assign rfl) ?_
    refine run_nil ?_
    refine St.kp [(2, _)] ?_
    refine St.then_n ?_
    refine do_ret ?_
    refine St.blk_r ?_
    refine St.then_r ?_
    refine do_ret1 Try.results101 (res_tmp rfl) ?_
    intro w hw
    exact ⟨(), trivial, by unfold kindP; rw [if_pos (by omega)], hw⟩
  · refine sr ?_
    refine rr (rd_eq rfl rfl) ?_
    refine rr (rd_assign rfl) ?_
    refine run_nil ?_
    refine St.kp [(6, _)] ?_
    refine St.then_n ?_
    first | refine do_condp rfl (fun h6 => ?_) (fun h6 => ?_) | refine do_cond rfl (fun h6 => ?_) (fun h6 => ?_)
    · refine sr ?_
      refine rr (rd_assign rfl) ?_
      refine nx ?_
      refine do_ret ?_
      refine St.blk_r ?_
      refine St.then_r ?_
      refine do_ret1 Try.results101 (res_tmp rfl) ?_
      intro w hw
      exact ⟨(), trivial, by unfold kindP; rw [if_neg (by omega), if_pos (by omega)], hw⟩
    · refine do_skip ?_
      refine St.blk_n ?_
      refine St.then_n ?_
      refine sr ?_
      refine rr (rd_assign rfl) ?_
      refine nx ?_
      refine do_ret ?_
      refine do_ret1 Try.results101 (res_tmp rfl) ?_
      intro w hw
      exact ⟨(), trivial, by unfold kindP; rw [if_neg (by omega), if_neg (by omega)], hw⟩
theorem map_set {α : Type} {f : α → α} {L : List α} {i : Nat} {x : α} (h : L[i]? = some x) : ((L.take i).map f ++ L.drop i).set i (f x) = (L.take (i + 1)).map f ++ L.drop (i + 1) := by
  have hi := (List.getElem?_eq_some_iff.1 h).1
  have hl : ((L.take i).map f).length = i := by rw [List.length_map, List.length_take]; omega
  rw [List.set_append_right _ _ (by omega), hl, Nat.sub_self, List.drop_eq_getElem_cons hi, List.set_cons_zero, take_get h, List.map_append, List.append_assoc]
  rfl
theorem map_get {α : Type} {f : α → α} {L : List α} {i : Nat} {x : α} (h : L[i]? = some x) : ((L.take i).map f ++ L.drop i)[i]? = some x := by
  have hi := (List.getElem?_eq_some_iff.1 h).1
  have hl : ((L.take i).map f).length = i := by rw [List.length_map, List.length_take]; omega
  rw [List.getElem?_append_right (by omega), hl, Nat.sub_self, List.getElem?_drop, Nat.add_zero, h]
set_option maxHeartbeats 1000000 in
theorem know_specG (F : HP) (r g N : Nat) (s : AuS) (n ph : Int) (hs : s.L.length ≤ 3) (hN : N = s.L.length) : Spec Try.prog 100 [.pointer (some ⟨r, 0, none⟩), .int .i64 n, .int .i64 ph] (auG r g N s) F (fun _ : Unit => True) (fun _ => .tuple #[]) (fun _ => auG r g N (knowS s n ph)) := by
  intro ω w hh
  refine enter Try.func100 rfl Try.ntmps100 rfl hh ?_
  simp only [List.cons_append, List.nil_append, argsB]
  obtain ⟨sn, sp, sa, L⟩ := s
  dsimp only at hN hs ⊢
  by_cases h1 : sn = n
  · by_cases h2 : sp = ph
    · rw [show knowS ⟨sn, sp, sa, L⟩ n ph = ⟨n, ph, sa, L⟩ by unfold knowS; rw [if_neg (by simpa using h1), if_neg (by simpa using h2), h1, h2]]
      refine do_seq ?_
      refine do_block ?_
      refine do_seq ?_
      refine do_block ?_
      refine do_seq ?_
      refine do_block ?_
      refine do_seq ?_
      refine do_seq ?_
      refine sr ?_
      refine rr (rd_move rfl) ?_
      refine rr (rd_nilCheck rfl) ?_
      refine rr (rd_fa rfl fld162_0) ?_
      refine rr (rd_ld rfl row2) ?_
      refine rr (rd_move rfl) ?_
      refine rr (rd_ne rfl rfl) ?_
      refine rr (rd_assign rfl) ?_
      refine run_nil ?_
      refine St.kp [(0, _), (1, _), (2, _), (7, _)] ?_
      refine St.then_n ?_
      refine do_condp rfl (fun h7 => absurd h7 (by omega)) (fun h7 => ?_)
      refine do_skip ?_
      refine St.then_n ?_
      refine sr ?_
      refine rr (rd_move rfl) ?_
      refine rr (rd_nilCheck rfl) ?_
      refine rr (rd_fa rfl fld162_1) ?_
      refine rr (rd_ld rfl row3) ?_
      refine rr (rd_move rfl) ?_
      refine rr (rd_ne rfl rfl) ?_
      refine rr (rd_assign rfl) ?_
      refine run_nil ?_
      refine St.kp [(0, _), (1, _), (2, _), (14, _)] ?_
      refine St.then_n ?_
      refine do_condp rfl (fun h14 => absurd h14 (by omega)) (fun h14 => ?_)
      refine do_skip ?_
      refine St.then_n ?_
      refine do_exit ?_
      refine St.blk_o rfl ?_
      refine St.then_x ?_
      refine St.blk_o rfl ?_
      refine St.then_x ?_
      refine St.blk_s ?_
      refine St.then_n ?_
      refine do_region ?_
      refine rr (rd_move rfl) ?_
      refine rr (rd_move rfl) ?_
      refine rr (rd_move rfl) ?_
      refine rr (rd_move rfl) ?_
      refine rr (rd_nilCheck rfl) ?_
      refine rr (rd_fa rfl fld162_0) ?_
      refine r_st row2 ?_
      refine rr (rd_nilCheck rfl) ?_
      refine rr (rd_fa rfl fld162_1) ?_
      refine r_st row3 ?_
      refine run_nil ?_
      refine St.kp [] ?_
      refine do_end0 Try.results100 ?_
      intro w hw
      exact ⟨(), trivial, rfl, hw.sb⟩
    · rw [show knowS ⟨sn, sp, sa, L⟩ n ph = ⟨n, ph, sa, L.map reset⟩ by unfold knowS; rw [if_neg (by simpa using h1), if_pos (by simpa using h2)]]
      refine do_seq ?_
      refine do_block ?_
      refine do_seq ?_
      refine do_block ?_
      refine do_seq ?_
      refine do_block ?_
      refine do_seq ?_
      refine do_seq ?_
      refine sr ?_
      refine rr (rd_move rfl) ?_
      refine rr (rd_nilCheck rfl) ?_
      refine rr (rd_fa rfl fld162_0) ?_
      refine rr (rd_ld rfl row2) ?_
      refine rr (rd_move rfl) ?_
      refine rr (rd_ne rfl rfl) ?_
      refine rr (rd_assign rfl) ?_
      refine run_nil ?_
      refine St.kp [(0, _), (1, _), (2, _), (7, _)] ?_
      refine St.then_n ?_
      refine do_condp rfl (fun h7 => absurd h7 (by omega)) (fun h7 => ?_)
      refine do_skip ?_
      refine St.then_n ?_
      refine sr ?_
      refine rr (rd_move rfl) ?_
      refine rr (rd_nilCheck rfl) ?_
      refine rr (rd_fa rfl fld162_1) ?_
      refine rr (rd_ld rfl row3) ?_
      refine rr (rd_move rfl) ?_
      refine rr (rd_ne rfl rfl) ?_
      refine rr (rd_assign rfl) ?_
      refine run_nil ?_
      refine St.kp [(0, _), (1, _), (2, _), (14, _)] ?_
      refine St.then_n ?_
      refine do_condp rfl (fun h14 => ?_) (fun h14 => absurd (by omega) h14)
      refine do_exit ?_
      refine St.then_x ?_
      refine St.blk_o rfl ?_
      refine St.then_x ?_
      refine St.blk_s ?_
      refine St.then_n ?_
      refine do_seq ?_
      refine sr ?_
      refine rr (rd_move rfl) ?_
      refine rr (rd_nilCheck rfl) ?_
      refine rr (rd_fa rfl fld162_3) ?_
      refine rr (rd_ld rfl row160) ?_
      refine rr (rd_len Try.underlying160 rfl) ?_
      refine rr (rd_move rfl) ?_
      refine run_nil ?_
      refine St.kp [(0, _), (1, _), (2, _), (32, _), (33, _)] ?_
      refine St.then_n ?_
      refine do_block ?_
      refine do_lp (fun i : Nat => i ≤ N) (fun i => [(0, .pointer (some ⟨r, 0, none⟩)), (1, .int .i64 n), (2, .int .i64 ph), (32, .int .i64 N), (33, .int .i64 i)]) (fun i => [pts r 162 [.int .i64 sn, .int .i64 sp, .bool sa, .slice (some ⟨g, 0, none⟩) N N], ownQ oneC 170 2 (.slice (some ⟨g, 0, none⟩) N N) N ((L.take i).map reset ++ L.drop i), rowsAll L, F]) (fun i => N - i) 0 (Nat.zero_le _) ?_ (hΓ := .cons (by repeat (first | with_reducible exact Sel.head | apply Sel.tail)) (.cons (by repeat (first | exact Sel.head | apply Sel.tail)) (by repeat (first | exact Pick.nil | apply Pick.cons (by repeat (first | with_reducible exact Sel.head | apply Sel.tail))))))
      intro i hi
      refine sr ?_
      refine rr (rd_lt rfl rfl) ?_
      refine nx ?_
      refine do_seq ?_
      first | refine do_condp rfl (fun h34 => ?_) (fun h34 => ?_) | refine do_cond rfl (fun h34 => ?_) (fun h34 => ?_)
      · have hx := List.getElem?_eq_getElem (l := L) (i := i) (by omega)
        generalize L[i]'_ = x at hx
        refine do_skip ?_
        refine St.then_n ?_
        refine do_seq ?_
        refine do_block ?_
        refine sr ?_
        refine rr (rd_move rfl) ?_
        refine rr (rd_assign rfl) ?_
        refine nx ?_
        refine do_region ?_
        refine rr (rd_move rfl) ?_
        refine rr (rd_nilCheck rfl) ?_
        refine rr (rd_fa rfl fld162_3) ?_
        refine rr (rd_ld rfl row160) ?_
        refine rr (rd_move rfl) ?_
        refine rr (rd_indexAddr Try.underlying160 ei170 rfl rfl (by omega) (by omega)) ?_
        refine rr (rd_fa (off' := 0 + i * 2 + 0) rfl fld170_0 rfl) ?_
        refine r_stQ1 (n := N) oneC_len (z := x) (z' := reset x) i 0 (map_get hx) (by decide) rfl row4 rfl ?_
        rw [map_set hx]
        refine run_nil ?_
        refine St.kp [(0, _), (1, _), (2, _), (32, _), (33, _)] ?_
        refine St.blk_n ?_
        refine St.then_n ?_
        refine do_region ?_
        refine rr (rd_addi rfl rfl) ?_
        refine rr (rd_move rfl) ?_
        refine nx ?_
        exact loop_bk (i + 1) (by omega) (hμ := by omega)
      · refine do_exit ?_
        refine St.then_x ?_
        refine St.then_x ?_
        refine St.blk_s ?_
        refine St.then_n ?_
        refine do_exit ?_
        refine St.blk_s ?_
        refine St.then_n ?_
        refine do_region ?_
        refine rr (rd_move rfl) ?_
        refine rr (rd_move rfl) ?_
        refine rr (rd_move rfl) ?_
        refine rr (rd_move rfl) ?_
        refine rr (rd_nilCheck rfl) ?_
        refine rr (rd_fa rfl fld162_0) ?_
        refine r_st row2 ?_
        refine rr (rd_nilCheck rfl) ?_
        refine rr (rd_fa rfl fld162_1) ?_
        refine r_st row3 ?_
        refine run_nil ?_
        refine St.kp [] ?_
        refine do_end0 Try.results100 ?_
        intro w hw
        rw [List.take_of_length_le (by omega), List.drop_eq_nil_of_le (by omega), List.append_nil, ← rowsAll_reset L] at hw
        exact ⟨(), trivial, rfl, hw.sb⟩
  · rw [show knowS ⟨sn, sp, sa, L⟩ n ph = ⟨n, ph, false, List.replicate N one0⟩ by unfold knowS; rw [if_pos (by simpa using h1), hN]]
    refine do_seq ?_
    refine do_block ?_
    refine do_seq ?_
    refine do_block ?_
    refine do_seq ?_
    refine do_block ?_
    refine do_seq ?_
    refine do_seq ?_
    refine sr ?_
    refine rr (rd_move rfl) ?_
    refine rr (rd_nilCheck rfl) ?_
    refine rr (rd_fa rfl fld162_0) ?_
    refine rr (rd_ld rfl row2) ?_
    refine rr (rd_move rfl) ?_
    refine rr (rd_ne rfl rfl) ?_
    refine rr (rd_assign rfl) ?_
    refine run_nil ?_
    refine St.kp [(0, _), (1, _), (2, _), (7, _)] ?_
    refine St.then_n ?_
    refine do_condp rfl (fun h7 => ?_) (fun h7 => absurd (by omega) h7)
    refine do_exit ?_
    refine St.then_x ?_
    refine St.then_x ?_
    refine St.blk_s ?_
    refine St.then_n ?_
    refine sr ?_
    refine rr (rd_move rfl) ?_
    refine rr (rd_nilCheck rfl) ?_
    refine rr (rd_fa rfl fld162_3) ?_
    refine rr (rd_ld rfl row160) ?_
    refine r_clQ one0 oneC_len Try.underlying160 ei170 rfl rfl ?_
    refine run_nil ?_
    refine St.kp [(0, _), (1, _), (2, _)] ?_
    refine St.then_n ?_
    refine do_region ?_
    refine rr (rd_move rfl) ?_
    refine rr (rd_nilCheck rfl) ?_
    refine rr (rd_fa rfl fld162_2) ?_
    refine r_st row4 ?_
    refine run_nil ?_
    refine St.blk_n ?_
    refine St.then_n ?_
    refine do_seq ?_
    refine sr ?_
    refine rr (rd_move rfl) ?_
    refine rr (rd_nilCheck rfl) ?_
    refine rr (rd_fa rfl fld162_3) ?_
    refine rr (rd_ld rfl row160) ?_
    refine rr (rd_len Try.underlying160 rfl) ?_
    refine rr (rd_move rfl) ?_
    refine run_nil ?_
    refine St.kp [(0, _), (1, _), (2, _), (32, _), (33, _)] ?_
    refine St.then_n ?_
    refine do_block ?_
    refine do_lp (fun i : Nat => i ≤ N) (fun i => [(0, .pointer (some ⟨r, 0, none⟩)), (1, .int .i64 n), (2, .int .i64 ph), (32, .int .i64 N), (33, .int .i64 i)]) (fun i => [pts r 162 [.int .i64 sn, .int .i64 sp, .bool false, .slice (some ⟨g, 0, none⟩) N N], ownQ oneC 170 2 (.slice (some ⟨g, 0, none⟩) N N) N (List.replicate N one0), F]) (fun i => N - i) 0 (Nat.zero_le _) ?_
    intro i hi
    refine sr ?_
    refine rr (rd_lt rfl rfl) ?_
    refine nx ?_
    refine do_seq ?_
    first | refine do_condp rfl (fun h34 => ?_) (fun h34 => ?_) | refine do_cond rfl (fun h34 => ?_) (fun h34 => ?_)
    · have hx : (List.replicate N one0)[i]? = some one0 := by rw [List.getElem?_replicate, if_pos (by omega)]
      refine do_skip ?_
      refine St.then_n ?_
      refine do_seq ?_
      refine do_block ?_
      refine sr ?_
      refine rr (rd_move rfl) ?_
      refine rr (rd_assign rfl) ?_
      refine nx ?_
      refine do_region ?_
      refine rr (rd_move rfl) ?_
      refine rr (rd_nilCheck rfl) ?_
      refine rr (rd_fa rfl fld162_3) ?_
      refine rr (rd_ld rfl row160) ?_
      refine rr (rd_move rfl) ?_
      refine rr (rd_indexAddr Try.underlying160 ei170 rfl rfl (by omega) (by omega)) ?_
      refine rr (rd_fa (off' := 0 + i * 2 + 0) rfl fld170_0 rfl) ?_
      refine r_stQ1 (n := N) oneC_len (z := one0) (z' := one0) i 0 hx (by decide) rfl row4 rfl ?_
      rw [show (List.replicate N one0).set i one0 = List.replicate N one0 by rw [List.set_replicate_self]]
      refine run_nil ?_
      refine St.kp [(0, _), (1, _), (2, _), (32, _), (33, _)] ?_
      refine St.blk_n ?_
      refine St.then_n ?_
      refine do_region ?_
      refine rr (rd_addi rfl rfl) ?_
      refine rr (rd_move rfl) ?_
      refine nx ?_
      exact loop_bk (i + 1) (by omega) (hμ := by omega)
    · refine do_exit ?_
      refine St.then_x ?_
      refine St.then_x ?_
      refine St.blk_s ?_
      refine St.then_n ?_
      refine do_exit ?_
      refine St.blk_s ?_
      refine St.then_n ?_
      refine do_region ?_
      refine rr (rd_move rfl) ?_
      refine rr (rd_move rfl) ?_
      refine rr (rd_move rfl) ?_
      refine rr (rd_move rfl) ?_
      refine rr (rd_nilCheck rfl) ?_
      refine rr (rd_fa rfl fld162_0) ?_
      refine r_st row2 ?_
      refine rr (rd_nilCheck rfl) ?_
      refine rr (rd_fa rfl fld162_1) ?_
      refine r_st row3 ?_
      refine run_nil ?_
      refine St.kp [] ?_
      refine do_end0 Try.results100 ?_
      intro w hw
      have h2 := rowsAll_zero N hw
      exact ⟨(), trivial, rfl, h2.sb⟩
theorem know_spec (F : HP) (r : Nat) (s : AuS) (n ph : Int) (hs : s.L.length ≤ 3) : Spec Try.prog 100 [.pointer (some ⟨r, 0, none⟩), .int .i64 n, .int .i64 ph] [auO r s] F (fun _ : Unit => True) (fun _ => .tuple #[]) (fun _ => [auO r (knowS s n ph)]) := by
  intro ω w hh
  obtain ⟨g, N, hN, h1⟩ := Holds.au_open (Γ := [F]) hh
  refine (know_specG F r g N s n ph hs hN ω w h1).mono ?_
  rintro e w' ⟨x, -, he, hw⟩
  exact ⟨x, trivial, he, Holds.au_shut (Γ := auG r g N (knowS s n ph) ++ [F]) (Γ1 := [F]) (knowS s n ph) g N hw (.cons .head (.cons .head (.cons .head .nil)))⟩
def leftP (L : List One) : Nat := (L.filter fun x => !x.is_).length
theorem auLeft_spec (F : HP) (r : Nat) (s : AuS) (hs : s.L.length ≤ 3) : Spec Try.prog 61 [.pointer (some ⟨r, 0, none⟩)] [auO r s] F (fun _ : Unit => True) (fun _ => .int .i64 (leftP s.L)) (fun _ => [auO r s]) := by
  intro ω w hh
  refine enter Try.func61 rfl Try.ntmps61 rfl hh ?_
  simp only [List.cons_append, List.nil_append, argsB]
  refine St.au_open fun g N hN => ?_
  obtain ⟨sn, sp, sa, L⟩ := s
  dsimp only at hN hs ⊢
  refine sr ?_
  refine rr (rd_assign rfl) ?_
  refine nx ?_
  refine do_seq ?_
  refine sr ?_
  refine rr (rd_move rfl) ?_
  refine rr (rd_ptr_eq_nil Try.underlying111 rfl rfl) ?_
  refine nx ?_
  refine do_cond_f rfl ?_
  refine do_skip ?_
  refine St.then_n ?_
  refine sr ?_
  refine rr (rd_assign rfl) ?_
  refine nx ?_
  refine do_seq ?_
  refine sr ?_
  refine rr (rd_move rfl) ?_
  refine rr (rd_nilCheck rfl) ?_
  refine rr (rd_fa rfl fld162_3) ?_
  refine rr (rd_ld rfl row160) ?_
  refine rr (rd_len Try.underlying160 rfl) ?_
  refine rr (rd_move rfl) ?_
  refine run_nil ?_
  refine St.kp [(3, _), (11, _), (12, _), (13, _)] ?_
  refine St.then_n ?_
  refine do_block ?_
  refine do_lp (fun i : Nat => i ≤ N) (fun i => [(3, .int .i64 (leftP (L.take i))), (11, .slice (some ⟨g, 0, none⟩) N N), (12, .int .i64 N), (13, .int .i64 i)]) (fun i => [pts r 162 [.int .i64 sn, .int .i64 sp, .bool sa, .slice (some ⟨g, 0, none⟩) N N], ownQ oneC 170 2 (.slice (some ⟨g, 0, none⟩) N N) N L, rowsAll L, F]) (fun i => N - i) 0 (Nat.zero_le _) ?_
  intro i hi
  refine sr ?_
  refine rr (rd_lt rfl rfl) ?_
  refine nx ?_
  refine do_seq ?_
  first | refine do_condp rfl (fun h14 => ?_) (fun h14 => ?_) | refine do_cond rfl (fun h14 => ?_) (fun h14 => ?_)
  · have hx := List.getElem?_eq_getElem (l := L) (i := i) (by omega)
    generalize L[i]'_ = x at hx
    have hle : leftP (L.take i) ≤ i := by
      unfold leftP
      exact Nat.le_trans (List.length_filter_le _ _) (by rw [List.length_take]; omega)
    have hsucc : leftP (L.take (i + 1)) = leftP (L.take i) + (if x.is_ then 0 else 1) := by
      unfold leftP
      rw [take_get hx, List.filter_append, List.length_append]
      cases h : x.is_ <;> simp [h]
    obtain ⟨is_, xA, xc, xrows⟩ := x
    dsimp only at hsucc
    refine do_skip ?_
    refine St.then_n ?_
    refine do_seq ?_
    refine do_block ?_
    refine sr ?_
    refine rr (rd_indexAddr Try.underlying160 ei170 rfl rfl (by omega) (by omega)) ?_
    refine rr (rd_ldr _ rfl row170 (cells_Q oneC_len hx)) ?_
    refine r_al zero170 fun b5 => ?_
    first | refine r_sa row170 ?_ | refine r_sm row170 ?_
    refine nx ?_
    refine sr ?_
    refine rr (rd_fa rfl fld170_0) ?_
    refine rr (rd_ld rfl row4) ?_
    refine rr (rd_not rfl) ?_
    refine run_nil ?_
    refine St.kp [(3, _), (11, _), (12, _), (13, _), (19, _)] ?_
    refine St.then_n ?_
    first | refine do_condp rfl (fun h19 => ?_) (fun h19 => ?_) | refine do_cond rfl (fun h19 => ?_) (fun h19 => ?_)
    · rw [show is_ = false by simpa using h19] at hsucc
      refine do_region ?_
      refine rr (rd_move rfl) ?_
      refine rr ((rd_addi rfl rfl).eq (ei (k := leftP (L.take (i + 1))) (by rw [hsucc]; simp))) ?_
      refine rr (rd_assign rfl) ?_
      refine run_nil ?_
      refine St.blk_n ?_
      refine St.then_n ?_
      refine do_region ?_
      refine rr (rd_addi rfl rfl) ?_
      refine rr (rd_move rfl) ?_
      refine run_nil ?_
      refine St.kp [(3, _), (11, _), (12, _), (13, _)] ?_
      refine St.then_n ?_
      exact loop_bk (i + 1) (by omega) (hμ := by omega) (hβ := ⟨by first | exact rfl | (rw [hsucc]; exact rfl), rfl, rfl, rfl, trivial⟩)
    · rw [show is_ = true by simpa using h19] at hsucc
      simp only [if_true, Nat.add_zero] at hsucc
      refine do_skip ?_
      refine St.blk_n ?_
      refine St.then_n ?_
      refine do_region ?_
      refine rr (rd_addi rfl rfl) ?_
      refine rr (rd_move rfl) ?_
      refine nx ?_
      exact loop_bk (i + 1) (by omega) (hμ := by omega) (hβ := ⟨by first | exact rfl | (rw [hsucc]; exact rfl), rfl, rfl, rfl, trivial⟩)
  · refine do_exit ?_
    refine St.then_x ?_
    refine St.then_x ?_
    refine St.blk_s ?_
    refine St.then_n ?_
    refine sr ?_
    refine rr (rd_move rfl) ?_
    refine rr (rd_assign rfl) ?_
    refine run_nil ?_
    refine St.kp [(2, _)] ?_
    refine St.then_n ?_
    refine do_ret ?_
    refine do_ret1 Try.results61 (res_tmp rfl) ?_
    intro w hw
    rw [show L.take i = L from List.take_of_length_le (by omega)]
    exact ⟨(), trivial, rfl, Holds.au_shut ⟨sn, sp, sa, L⟩ g N hw⟩
theorem auLeftNil_spec (F : HP) : Spec Try.prog 61 [.pointer none] [] F (fun _ : Unit => True) (fun _ => .int .i64 0) (fun _ => []) := by
  intro ω w hh
  refine enter Try.func61 rfl Try.ntmps61 rfl hh ?_
  simp only [List.nil_append, argsB]
  refine sr ?_
  refine rr (rd_assign rfl) ?_
  refine nx ?_
  refine do_seq ?_
  refine sr ?_
  refine rr (rd_move rfl) ?_
  refine rr (rd_ptr_eq_nil Try.underlying111 rfl rfl) ?_
  refine nx ?_
  refine do_cond_t rfl ?_
  refine sr ?_
  refine rr (rd_assign rfl) ?_
  refine nx ?_
  refine do_ret ?_
  refine St.then_r ?_
  refine do_ret1 Try.results61 (res_tmp rfl) ?_
  intro w hw
  exact ⟨(), trivial, rfl, hw⟩
theorem vw_all {L : List One} {x : One} (h : x ∈ L) : Vw (rowsAll L) x.v 2 x.rows.length (x.rows.flatMap rowC) := fun p hp => by
  obtain ⟨L1, L2, rfl⟩ := List.append_of_mem h
  unfold rowsAll at hp
  rw [List.map_append, List.map_cons] at hp
  obtain ⟨h1, h2, l1, l2, ap, _, hs⟩ := Sep.append.1 hp
  obtain ⟨h3, h4, l3, l4, ap', hx, _⟩ := hs
  exact (vw_Q h3 hx).mono (l3.trans l2)
abbrev slC (x : One) : List Value := [x.v]
theorem slC_len (x : One) : (slC x).length = 1 := rfl
theorem slC_one (x : One) : (slC x).all (·.oneCell') = true := rfl
def allRows (L : List One) : List GRow := L.flatMap (·.rows)
theorem rowsOf_map (L : List One) : rowsOf (L.map fun x => (x.v, x.rows)) = allRows L := by unfold rowsOf allRows; rw [List.flatMap_map]
theorem vwLL_map {Γ Γ1 Γ2 : List HP} {v : Value} {n : Nat} {L : List One} (p : Sel (ownQ slC 31 1 v n L) Γ Γ1) (q : Sel (rowsAll L) Γ Γ2) (hn : n = L.length) : VwLL (Sep Γ) v (L.map fun x => (x.v, x.rows)) := ⟨by
    rw [List.length_map, List.map_map, ← hn]
    have h := vw_Q (f := slC) (T := 31) (k := 1) (v := v) (n := n) (L := L)
    rw [show L.flatMap slC = L.map ((fun x : Value × List GRow => x.1) ∘ fun x : One => (x.v, x.rows)) by rw [List.map_eq_flatMap]; rfl] at h
    exact h.sep p, fun y hy => by
    obtain ⟨x, hx, rfl⟩ := List.mem_map.1 hy
    exact (vw_all hx).sep q⟩
set_option maxHeartbeats 1000000 in
theorem auRows_spec (F : HP) (r : Nat) (s : AuS) (hs : s.L.length ≤ 3) (hb : (allRows s.L).length ≤ 1099511627776) : Spec Try.prog 58 [.pointer (some ⟨r, 0, none⟩)] [auO r s] F (fun _ : Value => True) (fun v => .tuple #[v, .bool s.all])
    (fun v => [rq v (if s.all then (allRows s.L).length else 0) (if s.all then isort (allRows s.L) else []), auO r s]) := by
  intro ω w hh
  refine enter Try.func58 rfl Try.ntmps58 rfl hh ?_
  simp only [List.cons_append, List.nil_append, argsB]
  refine St.au_open fun g N hN => ?_
  obtain ⟨sn, sp, sa, L⟩ := s
  dsimp only at hN hs hb ⊢
  cases sa
  · simp only [Bool.false_eq_true, if_false]
    refine sr ?_
    refine rr (rd_assign rfl) ?_
    refine rr (rd_assign rfl) ?_
    refine nx ?_
    refine do_seq ?_
    refine sr ?_
    refine rr (rd_move rfl) ?_
    refine rr ((rd_ptr_eq_nil Try.underlying111 rfl rfl)) ?_
    refine rr (rd_move rfl) ?_
    first | refine sk ?_ | (refine rr (rd_move rfl) ?_)
    first | refine sk ?_ | (refine rr (rd_nilCheck rfl) ?_)
    first | refine sk ?_ | (refine rr (rd_fa rfl fld162_2) ?_)
    first | refine sk ?_ | (refine rr (rd_ld rfl row4) ?_)
    first | refine sk ?_ | (refine rr (rd_not rfl) ?_)
    refine rr (rd_pick rfl rfl) ?_
    refine run_nil ?_
    refine St.kp [(0, _), (15, _)] ?_
    refine St.then_n ?_
    refine do_cond_t rfl ?_
    refine sr ?_
    refine rr (rd_assign rfl) ?_
    refine rr (rd_assign rfl) ?_
    refine nx ?_
    refine do_ret ?_
    refine St.then_r ?_
    refine do_ret2 Try.results58 (res_tmp rfl) (res_tmp rfl) ?_
    intro w hw
    exact ⟨_, trivial, rfl, Holds.ent (fun h hp => ⟨rfl, hp⟩) (Holds.own_nil (Holds.au_shut ⟨sn, sp, false, L⟩ g N hw))⟩
  · simp only [if_true]
    refine sr ?_
    refine rr (rd_assign rfl) ?_
    refine rr (rd_assign rfl) ?_
    refine nx ?_
    refine do_seq ?_
    refine sr ?_
    refine rr (rd_move rfl) ?_
    refine rr (rd_ptr_eq_nil Try.underlying111 rfl rfl) ?_
    refine rr (rd_move rfl) ?_
    first | refine sk ?_ | (refine rr (rd_move rfl) ?_)
    first | refine sk ?_ | (refine rr (rd_nilCheck rfl) ?_)
    first | refine sk ?_ | (refine rr (rd_fa rfl fld162_2) ?_)
    first | refine sk ?_ | (refine rr (rd_ld rfl row4) ?_)
    first | refine sk ?_ | (refine rr (rd_not rfl) ?_)
    refine rr (rd_pick rfl rfl) ?_
    refine run_nil ?_
    refine St.kp [(0, _), (15, _)] ?_
    refine St.then_n ?_
    refine do_cond_f rfl ?_
    refine do_skip ?_
    refine St.then_n ?_
    refine sr ?_
    refine rr (rd_assign rfl) ?_
    refine nx ?_
    refine do_seq ?_
    refine sr ?_
    refine rr (rd_move rfl) ?_
    refine rr (rd_nilCheck rfl) ?_
    refine rr (rd_fa rfl fld162_3) ?_
    refine rr (rd_ld rfl row160) ?_
    refine rr (rd_len Try.underlying160 rfl) ?_
    refine rr (rd_move rfl) ?_
    refine run_nil ?_
    refine St.kp [(4, _), (19, _), (20, _), (21, _)] ?_
    refine St.then_n ?_
    refine do_block ?_
    refine St.nilQ (f := slC) (T := 31) (k := 1) ?_
    refine do_lp (fun y : Nat × Value => y.1 ≤ N) (fun y => [(4, y.2), (19, .slice (some ⟨g, 0, none⟩) N N), (20, .int .i64 N), (21, .int .i64 y.1)]) (fun y => [ownQ slC 31 1 y.2 y.1 (L.take y.1), pts r 162 [.int .i64 sn, .int .i64 sp, .bool true, .slice (some ⟨g, 0, none⟩) N N], ownQ oneC 170 2 (.slice (some ⟨g, 0, none⟩) N N) N L, rowsAll L, F]) (fun y => N - y.1) (0, .slice none 0 0) (Nat.zero_le _) ?_ (hΓ := .cons .head (by repeat (first | exact Pick.nil | apply Pick.cons (by repeat (first | with_reducible exact Sel.head | apply Sel.tail)))))
    rintro ⟨i, v4⟩ hi
    dsimp only at hi ⊢
    refine sr ?_
    refine rr (rd_lt rfl rfl) ?_
    refine nx ?_
    refine do_seq ?_
    first | refine do_condp rfl (fun h22 => ?_) (fun h22 => ?_) | refine do_cond rfl (fun h22 => ?_) (fun h22 => ?_)
    · have hx := List.getElem?_eq_getElem (l := L) (i := i) (by omega)
      generalize L[i]'_ = x at hx
      have htk := take_get hx
      obtain ⟨is_, xA, xc, xrows⟩ := x
      refine do_skip ?_
      refine St.then_n ?_
      refine do_seq ?_
      refine do_block ?_
      refine sr ?_
      refine rr (rd_indexAddr Try.underlying160 ei170 rfl rfl (by omega) (by omega)) ?_
      refine rr (rd_ldr _ rfl row170 (cells_Q oneC_len hx)) ?_
      refine r_al zero170 fun b6 => ?_
      first | refine r_sa row170 ?_ | refine r_sm row170 ?_
      refine nx ?_
      refine do_region ?_
      refine rr (rd_move rfl) ?_
      refine rr (rd_fa rfl fld170_1) ?_
      refine rr (rd_ld rfl row31) ?_
      refine run_buildSlice (l := [(Operand.tmp 27)]) rfl (by decide) Try.underlying127 ei31 rfl rfl (by decide) (by decide) (fun b28 => ?_)
      simp only [joinL, cells_agg, cells_int, cells_bcell, cells_bool, cells_string, cells_pointer, cells_slice, cells_map, cells_func, List.cons_append, List.nil_append, List.append_nil]
      refine r_apQ (f := slC) (n := i) (M := [⟨is_, xA, xc, xrows⟩]) slC_len slC_one Try.underlying127 ei31 (X := pts b28 31 [.slice xA xrows.length xc]) (vw_pts (off := 0) (Nat.le_refl _) (by decide) rfl rfl) rfl (by omega) (by decide) (by omega) (fun v5 _ => ?_)
      rw [← htk]
      refine rr (rd_assign rfl) ?_
      refine run_nil ?_
      refine St.kp [(4, _), (19, _), (20, _), (21, _)] ?_
      refine St.blk_n ?_
      refine St.then_n ?_
      refine do_region ?_
      refine rr (rd_addi rfl rfl) ?_
      refine rr (rd_move rfl) ?_
      refine nx ?_
      exact loop_bk (i + 1, v5) (by dsimp only; omega) (hμ := by dsimp only; omega)
    · obtain rfl : i = N := by omega
      rw [show L.take i = L from List.take_of_length_le (by omega)]
      refine do_exit ?_
      refine St.then_x ?_
      refine St.then_x ?_
      refine St.blk_s ?_
      refine St.then_n ?_
      refine sr ?_
      refine rr (rd_move rfl) ?_
      refine rc (hs := merge_spec _ v4 (L.map fun x => (x.v, x.rows)) (vwLL_map (n := i) (by repeat (first | with_reducible exact Sel.head | apply Sel.tail)) (by repeat (first | with_reducible exact Sel.head | apply Sel.tail)) hN) (by rw [rowsOf_map]; exact hb)) (k := ?_)
      rintro v6 -
      rw [rowsOf_map]
      try simp only [List.cons_append, List.nil_append]
      refine rr (rd_assign rfl) ?_
      refine rr (rd_assign rfl) ?_
      refine run_nil ?_
      refine St.kp [(2, _), (3, _)] ?_
      refine St.then_n ?_
      refine do_ret ?_
      refine do_ret2 Try.results58 (res_tmp rfl) (res_tmp rfl) ?_
      intro w hw
      exact ⟨v6, trivial, rfl, Holds.swap_ ((Holds.au_shut ⟨sn, sp, true, L⟩ g i hw (.cons (by repeat (first | with_reducible exact Sel.head | apply Sel.tail)) (by repeat (first | exact Pick.nil | apply Pick.cons (by repeat (first | with_reducible exact Sel.head | apply Sel.tail)))))).sb)⟩
theorem auRowsNil_spec (F : HP) : Spec Try.prog 58 [.pointer none] [] F (fun _ : Unit => True) (fun _ => .tuple #[.slice none 0 0, .bool false]) (fun _ => []) := by
  intro ω w hh
  refine enter Try.func58 rfl Try.ntmps58 rfl hh ?_
  simp only [List.nil_append, argsB]
  refine sr ?_
  refine rr (rd_assign rfl) ?_
  refine rr (rd_assign rfl) ?_
  refine nx ?_
  refine do_seq ?_
  refine sr ?_
  refine rr (rd_move rfl) ?_
  refine rr (rd_ptr_eq_nil Try.underlying111 rfl rfl) ?_
  refine rr (rd_move rfl) ?_
  first | refine sk ?_ | (refine rr (rd_move rfl) ?_)
  first | refine sk ?_ | (refine rr (rd_nilCheck rfl) ?_)
  first | refine sk ?_ | (refine rr (rd_fa rfl fld162_2) ?_)
  first | refine sk ?_ | (refine rr (rd_ld rfl row4) ?_)
  first | refine sk ?_ | (refine rr (rd_not rfl) ?_)
  refine rr (rd_pick rfl rfl) ?_
  refine run_nil ?_
  refine St.kp [(0, _), (15, _)] ?_
  refine St.then_n ?_
  refine do_cond_t rfl ?_
  refine sr ?_
  refine rr (rd_assign rfl) ?_
  refine rr (rd_assign rfl) ?_
  refine nx ?_
  refine do_ret ?_
  refine St.then_r ?_
  refine do_ret2 Try.results58 (res_tmp rfl) (res_tmp rfl) ?_
  intro w hw
  exact ⟨(), trivial, rfl, hw⟩
end Go.Proofs.Ytglcmlicfmmlpaa
