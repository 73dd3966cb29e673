/-
  A pager of its own; pairs alike; known of the laws.
-/
import Derived.Test.YtgeldfgcicjidaaT16
namespace Go.Proofs.Ytgeldfgcicjidaa
open Go.RowKit
set_option linter.unusedSimpArgs false
set_option linter.unusedVariables false

theorem pages_spec (F : HP) (n : Nat) (h1 : 1 ≤ n) (h2 : n + 2 ≤ 4096) :
    Spec Try.prog 8 [.int .i64 n] [] F (fun _ : Nat × Nat => True) (fun x => .tuple #[.pointer (some ⟨x.1, 0, none⟩), .pointer (some ⟨x.2, 0, none⟩)]) (fun x => [pagerO x.1 x.2 (pg0 n)]) := by
  intro ω w hh
  refine enter Try.func8 rfl Try.ntmps8 rfl hh ?_
  simp only [List.nil_append, argsB]
  refine sr ?_
  refine rr (rd_assign rfl) ?_
  refine rr (rd_assign rfl) ?_
  refine nx ?_
  refine sr ?_
  refine rr (rd_move rfl) ?_
  refine rr ((rd_addi rfl rfl).eq (show _ = Value.int .i64 ((n + 2 : Nat) : Int) by rw [Int.natCast_add]; rfl)) ?_
  refine rc (hs := diskNew_spec _ (n + 2) (by omega) h2) (k := ?_)
  rintro d -
  try simp only [List.cons_append, List.nil_append]
  refine rr (rd_move rfl) ?_
  refine rr (rd_extract rfl rfl) ?_
  refine rr (rd_extract rfl rfl) ?_
  refine rr (rd_assign rfl) ?_
  refine rr (rd_assign rfl) ?_
  refine run_nil ?_
  refine St.kp [(0, _), (4, _), (5, _)] ?_
  refine St.then_n ?_
  refine do_seq ?_
  refine sr ?_
  refine rr (rd_move rfl) ?_
  refine rr (rd_ne rfl rfl) ?_
  refine nx ?_
  refine do_cond_f rfl ?_
  refine do_skip ?_
  refine St.then_n ?_
  refine sr ?_
  refine rr (rd_move rfl) ?_
  refine rr (rd_move rfl) ?_
  refine rr ((rd_addi rfl rfl).eq (show _ = Value.int .i64 ((n + 2 : Nat) : Int) by rw [Int.natCast_add]; rfl)) ?_
  refine St.ent (Q := diskO d (pg0 n).dk) (fun _ h => h) ?_
  refine rc (hs := open0_spec _ d n h1 h2) (k := ?_)
  rintro ⟨p, mA, mc⟩ -
  try simp only [List.cons_append, List.nil_append]
  refine rr (rd_move rfl) ?_
  refine rr (rd_extract rfl rfl) ?_
  refine rr (rd_extract rfl rfl) ?_
  refine rr (rd_extract rfl rfl) ?_
  refine r_al zero64 fun b7 => ?_
  refine rr (rd_assign rfl) ?_
  first | refine r_sa row64 ?_ | refine r_sm row64 ?_
  refine rr (rd_assign rfl) ?_
  refine run_nil ?_
  refine St.kp [(4, _), (6, _), (8, _)] ?_
  refine St.then_n ?_
  refine do_seq ?_
  refine sr ?_
  refine rr (rd_move rfl) ?_
  refine rr (rd_ne rfl rfl) ?_
  refine nx ?_
  refine do_cond_f rfl ?_
  refine do_skip ?_
  refine St.then_n ?_
  refine sr ?_
  refine rr (rd_move rfl) ?_
  refine rr (rd_move rfl) ?_
  refine rr (rd_assign rfl) ?_
  refine rr (rd_assign rfl) ?_
  refine run_nil ?_
  refine St.kp [(2, _), (3, _)] ?_
  refine St.then_n ?_
  refine do_ret ?_
  refine do_ret2 Try.results8 (res_tmp rfl) (res_tmp rfl) ?_
  intro w hw
  exact ⟨(d, p), trivial, rfl, hw.sb⟩
theorem pg0_fre (n : Nat) (h : n ≤ 4096) : (pg0 n).fre.length = n := by
  unfold PS.fre
  rw [List.filter_eq_self.2, List.length_range]
  · rfl
  · intro i hi
    have : i < n := List.mem_range.1 hi
    unfold PS.free pg0
    dsimp only
    rw [List.getElem?_replicate, if_pos (by omega)]
    rfl
theorem pg0_good {n : Nat} (h : n + 2 ≤ 4096) : (pg0 n).good (n + 2) := ⟨pg0_ok h, by rw [pg0_fre n (by omega)]; show 0 + n ≤ _; omega⟩
abbrev Pm.q (x : Pm) : List UInt8 × List UInt8 × Bool := (x.k, x.b, x.del)
set_option maxHeartbeats 2000000 in
theorem sameP_spec (F : HP) (Aa Ab : Option Addr) (n ca cb : Nat) (La Lb : List Pm) (hVa : Vw F (.slice Aa n ca) 3 n (La.flatMap prC)) (hXa : ∀ x ∈ La, VwB F x.v x.b) (hVb : Vw F (.slice Ab n cb) 3 n (Lb.flatMap prC)) (hXb : ∀ x ∈ Lb, VwB F x.v x.b) (hn : La.length = n) (h : La.map Pm.q = Lb.map Pm.q) :
    Spec Try.prog 10 [.slice Aa n ca, .slice Ab n cb] [] F (fun _ : Unit => True) (fun _ => .bool true) (fun _ => []) := by
  intro ω w hh
  refine enter Try.func10 rfl Try.ntmps10 rfl hh ?_
  simp only [List.nil_append, argsB]
  refine St.vw hVa (by repeat (first | with_reducible exact Sel.head | apply Sel.tail)) (fun A0 c0 hv0 _ hcm _ => ?_)
  cases hv0
  have hnm : n ≤ 9223372036854775807 := by simp only [maxLen] at hcm; omega
  have hnb : Lb.length = n := by have := congrArg List.length h; rwa [List.length_map, List.length_map, hn, eq_comm] at this
  refine sr ?_
  refine rr (rd_assign rfl) ?_
  refine nx ?_
  refine do_seq ?_
  refine sr ?_
  refine rr (rd_move rfl) ?_
  refine rr (rd_len Try.underlying22 rfl) ?_
  refine rr (rd_move rfl) ?_
  refine rr (rd_len Try.underlying22 rfl) ?_
  refine rr ((rd_ne rfl rfl).eq (show _ = Value.bool false by simp)) ?_
  refine run_nil ?_
  refine St.kp [(0, _), (1, _), (10, _)] ?_
  refine St.then_n ?_
  refine do_cond_f rfl ?_
  refine do_skip ?_
  refine St.then_n ?_
  refine do_seq ?_
  refine sr ?_
  refine rr (rd_assign rfl) ?_
  refine nx ?_
  refine do_block ?_
  refine do_lp (fun q : Nat => q ≤ n) (fun q => [(0, .slice Aa n ca), (1, .slice Ab n cb), (5, .int .i64 q)]) (fun _ => [F]) (fun q => n - q) 0 (Nat.zero_le _) ?_
  intro q hq
  refine do_seq ?_
  refine sr ?_
  refine rr (rd_move rfl) ?_
  refine rr (rd_move rfl) ?_
  refine rr (rd_len Try.underlying22 rfl) ?_
  refine rr (rd_lt rfl rfl) ?_
  refine nx ?_
  first | refine do_condp rfl (fun h14 => ?_) (fun h14 => ?_) | refine do_cond rfl (fun h14 => ?_) (fun h14 => ?_)
  · have hxa := List.getElem?_eq_getElem (l := La) (i := q) (by omega)
    have hxb := List.getElem?_eq_getElem (l := Lb) (i := q) (by omega)
    have hma := List.mem_of_getElem? hxa
    have hmb := List.mem_of_getElem? hxb
    have hxq := congrArg (·[q]?) h
    rw [List.getElem?_map, List.getElem?_map, hxa, hxb] at hxq
    have hqe := Option.some.inj hxq
    clear hxq
    generalize La[q]'_ = x at hxa hma hqe
    generalize Lb[q]'_ = y at hxb hmb hqe
    have hva := hXa x hma
    have hvb := hXb y hmb
    obtain ⟨xk, xA, xc, xb, xd⟩ := x
    obtain ⟨yk, yA, yc, yb, yd⟩ := y
    simp only [Pm.q, Prod.mk.injEq] at hqe
    obtain ⟨rfl, rfl, rfl⟩ := hqe
    dsimp only at hva hvb
    refine St.vw_some hVa (by repeat (first | with_reducible exact Sel.head | apply Sel.tail)) (by omega) (fun ga oa hga _ _ => ?_)
    cases hga
    refine St.vw_some hVb (by repeat (first | with_reducible exact Sel.head | apply Sel.tail)) (by omega) (fun gb ob hgb _ _ => ?_)
    cases hgb
    refine do_skip ?_
    refine St.then_n ?_
    refine do_seq ?_
    refine do_block ?_
    refine do_seq ?_
    refine do_draw [[2, 3, 4, 10, 11, 12, 13, 14, 15, 16, 17, 18, 19, 20, 21, 22, 23, 24, 25, 26, 27, 28, 29, 30, 31, 32, 33, 34, 35, 36, 37, 38], [2, 3, 4, 10, 11, 12, 13, 14, 15, 16, 17, 18, 19, 20, 21, 22, 23, 24, 25, 26, 27, 28, 29, 30, 31, 32, 33, 34, 35, 36, 37, 38], [3, 4, 10, 11, 12, 13, 14, 15, 16, 17, 18, 19, 20, 21, 22, 23, 24, 25, 26, 27, 28, 29, 30, 31, 32, 33, 34, 35, 36, 37, 38], [4, 10, 11, 12, 13, 14, 15, 16, 17, 18, 19, 20, 21, 22, 23, 24, 25, 26, 27, 28, 29, 30, 31, 32, 33, 34, 35, 36, 37, 38], [10, 11, 12, 13, 14, 15, 16, 17, 18, 19, 20, 21, 22, 23, 24, 25, 26, 27, 28, 29, 30, 31, 32, 33, 34, 35, 36, 37, 38], [7, 8, 9, 10, 11, 12, 13, 14, 15, 16, 17, 18, 19, 20, 21, 22, 23, 24, 25, 26, 27, 28, 29, 30, 31, 32, 33, 34, 35, 36, 37, 38], [7, 8, 9, 10, 11, 12, 13, 14, 15, 16, 17, 18, 19, 20, 21, 22, 23, 24, 25, 26, 27, 28, 29, 30, 31, 32, 33, 34, 35, 36, 37, 38], [8, 9, 10, 11, 12, 13, 14, 15, 16, 17, 18, 19, 20, 21, 22, 23, 24, 25, 26, 27, 28, 29, 30, 31, 32, 33, 34, 35, 36, 37, 38], [9, 10, 11, 12, 13, 14, 15, 16, 17, 18, 19, 20, 21, 22, 23, 24, 25, 26, 27, 28, 29, 30, 31, 32, 33, 34, 35, 36, 37, 38], [10, 11, 12, 13, 14, 15, 16, 17, 18, 19, 20, 21, 22, 23, 24, 25, 26, 27, 28, 29, 30, 31, 32, 33, 34, 35, 36, 37, 38], [11, 12, 13, 14, 15, 16, 17, 18, 19, 20, 21, 22, 23, 24, 25, 26, 27, 28, 29, 30, 31, 32, 33, 34, 35, 36, 37, 38], [12, 13, 14, 15, 16, 17, 18, 19, 20, 21, 22, 23, 24, 25, 26, 27, 28, 29, 30, 31, 32, 33, 34, 35, 36, 37, 38], [14, 15, 16, 17, 24, 25, 26, 27, 28, 29, 30, 31, 32, 33, 34, 35, 36, 37, 38], [14, 15, 16, 17, 24, 25, 26, 27, 28, 29, 30, 31, 32, 33, 34, 35, 36, 37, 38], [15, 16, 17, 24, 25, 26, 27, 28, 29, 30, 31, 32, 33, 34, 35, 36, 37, 38], [16, 17, 24, 25, 26, 27, 28, 29, 30, 31, 32, 33, 34, 35, 36, 37, 38], [17, 24, 25, 26, 27, 28, 29, 30, 31, 32, 33, 34, 35, 36, 37, 38], [24, 25, 26, 27, 28, 29, 30, 31, 32, 33, 34, 35, 36, 37, 38], [20, 21, 22, 23, 24, 25, 26, 27, 28, 29, 30, 31, 32, 33, 34, 35, 36, 37, 38], [20, 21, 22, 23, 24, 25, 26, 27, 28, 29, 30, 31, 32, 33, 34, 35, 36, 37, 38], [21, 22, 23, 24, 25, 26, 27, 28, 29, 30, 31, 32, 33, 34, 35, 36, 37, 38], [22, 23, 24, 25, 26, 27, 28, 29, 30, 31, 32, 33, 34, 35, 36, 37, 38], [23, 24, 25, 26, 27, 28, 29, 30, 31, 32, 33, 34, 35, 36, 37, 38], [24, 25, 26, 27, 28, 29, 30, 31, 32, 33, 34, 35, 36, 37, 38], [25, 26, 27, 28, 29, 30, 31, 32, 33, 34, 35, 36, 37, 38], [26, 27, 28, 29, 30, 31, 32, 33, 34, 35, 36, 37, 38], [27, 28, 29, 30, 31, 32, 33, 34, 35, 36, 37, 38], [29, 30, 31, 37, 38], [29, 30, 31, 37, 38], [30, 31, 37, 38], [31, 37, 38], [37, 38], [34, 35, 36, 37, 38], [34, 35, 36, 37, 38], [35, 36, 37, 38], [36, 37, 38], [37, 38], [38], []] (by kernel_rfl) rfl ?_
    refine ta 0 rfl (rd_move rfl) ?_
    refine ta 1 rfl (rd_move rfl) ?_
    refine ta 2 rfl ((rd_indexAddr Try.underlying22 ei55 rfl rfl (by omega) (by omega)).eq (show _ = Value.pointer (some ⟨ga, oa + q * 3, none⟩) by simp)) ?_
    refine ta 3 rfl (rd_fa (off' := oa + (q * 3 + 0)) rfl fld55_0 rfl) ?_
    refine ta 4 rfl (rd_ld rfl row9 (Vw.cells1 hVa (by repeat (first | with_reducible exact Sel.head | apply Sel.tail)) (by omega) (flat_cell prC_len hxa (j := 0) (by decide) rfl))) ?_
    refine ta 5 rfl (rd_move rfl) ?_
    refine ta 6 rfl (rd_move rfl) ?_
    refine ta 7 rfl ((rd_indexAddr Try.underlying22 ei55 rfl rfl (by omega) (by omega)).eq (show _ = Value.pointer (some ⟨gb, ob + q * 3, none⟩) by simp)) ?_
    refine ta 8 rfl (rd_fa (off' := ob + (q * 3 + 0)) rfl fld55_0 rfl) ?_
    refine ta 9 rfl (rd_ld rfl row9 (Vw.cells1 hVb (by repeat (first | with_reducible exact Sel.head | apply Sel.tail)) (by omega) (flat_cell prC_len hxb (j := 0) (by decide) rfl))) ?_
    refine ta 10 rfl ((rd_str_neq rfl rfl).eq (show _ = Value.bool false by simp)) ?_
    refine ta 11 rfl (rd_move rfl) ?_
    first | refine ts 12 ?_ | refine ta 12 rfl (rd_move rfl) ?_
    first | refine ts 13 ?_ | refine ta 13 rfl (rd_move rfl) ?_
    first | refine ts 14 ?_ | refine ta 14 rfl ((rd_indexAddr Try.underlying22 ei55 rfl rfl (by omega) (by omega)).eq (show _ = Value.pointer (some ⟨ga, oa + q * 3, none⟩) by simp)) ?_
    first | refine ts 15 ?_ | refine ta 15 rfl (rd_fa (off' := oa + (q * 3 + 1)) rfl fld55_1 (by omega)) ?_
    first | refine ts 16 ?_ | refine ta 16 rfl (rd_ld rfl row44 (Vw.cells1 hVa (by repeat (first | with_reducible exact Sel.head | apply Sel.tail)) (by omega) (flat_cell prC_len hxa (j := 1) (by decide) rfl))) ?_
    first | refine ts 17 ?_ | refine ta 17 rfl (rd_bytes_string Try.underlying44 Try.underlying5 Try.underlying9 rfl hva (by repeat (first | with_reducible exact Sel.head | apply Sel.tail))) ?_
    first | refine ts 18 ?_ | refine ta 18 rfl (rd_move rfl) ?_
    first | refine ts 19 ?_ | refine ta 19 rfl (rd_move rfl) ?_
    first | refine ts 20 ?_ | refine ta 20 rfl ((rd_indexAddr Try.underlying22 ei55 rfl rfl (by omega) (by omega)).eq (show _ = Value.pointer (some ⟨gb, ob + q * 3, none⟩) by simp)) ?_
    first | refine ts 21 ?_ | refine ta 21 rfl (rd_fa (off' := ob + (q * 3 + 1)) rfl fld55_1 (by omega)) ?_
    first | refine ts 22 ?_ | refine ta 22 rfl (rd_ld rfl row44 (Vw.cells1 hVb (by repeat (first | with_reducible exact Sel.head | apply Sel.tail)) (by omega) (flat_cell prC_len hxb (j := 1) (by decide) rfl))) ?_
    first | refine ts 23 ?_ | refine ta 23 rfl (rd_bytes_string Try.underlying44 Try.underlying5 Try.underlying9 rfl hvb (by repeat (first | with_reducible exact Sel.head | apply Sel.tail))) ?_
    first | refine ts 24 ?_ | refine ta 24 rfl ((rd_str_neq rfl rfl).eq (show _ = Value.bool false by simp)) ?_
    refine ta 25 rfl (rd_pick rfl rfl) ?_
    refine ta 26 rfl (rd_move rfl) ?_
    first | refine ts 27 ?_ | refine ta 27 rfl (rd_move rfl) ?_
    first | refine ts 28 ?_ | refine ta 28 rfl (rd_move rfl) ?_
    first | refine ts 29 ?_ | refine ta 29 rfl ((rd_indexAddr Try.underlying22 ei55 rfl rfl (by omega) (by omega)).eq (show _ = Value.pointer (some ⟨ga, oa + q * 3, none⟩) by simp)) ?_
    first | refine ts 30 ?_ | refine ta 30 rfl (rd_fa (off' := oa + (q * 3 + 2)) rfl fld55_2 (by omega)) ?_
    first | refine ts 31 ?_ | refine ta 31 rfl (rd_ld rfl row4 (Vw.cells1 hVa (by repeat (first | with_reducible exact Sel.head | apply Sel.tail)) (by omega) (flat_cell prC_len hxa (j := 2) (by decide) rfl))) ?_
    first | refine ts 32 ?_ | refine ta 32 rfl (rd_move rfl) ?_
    first | refine ts 33 ?_ | refine ta 33 rfl (rd_move rfl) ?_
    first | refine ts 34 ?_ | refine ta 34 rfl ((rd_indexAddr Try.underlying22 ei55 rfl rfl (by omega) (by omega)).eq (show _ = Value.pointer (some ⟨gb, ob + q * 3, none⟩) by simp)) ?_
    first | refine ts 35 ?_ | refine ta 35 rfl (rd_fa (off' := ob + (q * 3 + 2)) rfl fld55_2 (by omega)) ?_
    first | refine ts 36 ?_ | refine ta 36 rfl (rd_ld rfl row4 (Vw.cells1 hVb (by repeat (first | with_reducible exact Sel.head | apply Sel.tail)) (by omega) (flat_cell prC_len hxb (j := 2) (by decide) rfl))) ?_
    first | refine ts 37 ?_ | refine ta 37 rfl ((rd_bool_ne Try.underlying4 rfl rfl).eq (show _ = Value.bool false by simp)) ?_
    refine ta 38 rfl (rd_pick rfl rfl) ?_
    refine any_nil (by kernel_rfl) ?_
    refine St.kp [(0, _), (1, _), (5, _), (29, _), (30, _), (31, _), (32, _), (33, _), (34, _), (35, _), (36, _), (37, _), (38, _), (39, _), (40, _), (41, _), (44, _), (45, _), (46, _), (47, _), (48, _), (49, _), (50, _), (51, _), (52, _), (53, _), (54, _), (55, _)] ?_
    refine St.then_n ?_
    refine do_cond_f rfl ?_
    refine do_skip ?_
    refine St.blk_n ?_
    refine St.then_n ?_
    refine do_region ?_
    refine rr (rd_move rfl) ?_
    refine rr (rd_addi rfl rfl) ?_
    refine rr (rd_assign rfl) ?_
    refine nx ?_
    exact loop_bk (q + 1) (by omega)
  · refine do_exit ?_
    refine St.then_x ?_
    refine St.then_x ?_
    refine St.blk_s ?_
    refine St.then_n ?_
    refine sr ?_
    refine rr (rd_assign rfl) ?_
    refine run_nil ?_
    refine St.kp [(4, _)] ?_
    refine St.then_n ?_
    refine do_ret ?_
    refine do_ret1 Try.results10 (res_tmp rfl) ?_
    intro w hw
    exact ⟨(), trivial, rfl, hw.sb⟩
end Go.Proofs.Ytgeldfgcicjidaa
