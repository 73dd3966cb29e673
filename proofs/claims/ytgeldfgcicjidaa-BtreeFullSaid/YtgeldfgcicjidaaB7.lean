/-
  The pager on a new disk.
-/
import Derived.Test.YtgeldfgcicjidaaB6
namespace Go.Proofs.Ytgeldfgcicjidaa
open Go.RowKit
set_option linter.unusedSimpArgs false
set_option linter.unusedVariables false

theorem vw_bytes' {A : Option Addr} {c n : Nat} {bs : List UInt8} (h : bs.length = n) : VwB (bytesO (.slice A n c) bs) (.slice A n c) bs := vw_bytes
theorem vw_cut {F : HP} {A : Option Addr} {m c : Nat} {bs : List UInt8} (h : VwB F (.slice A m c) bs) (i j : Nat) (hij : i ≤ j) (hj : j ≤ bs.length) : VwB F (.slice (subA A c i 1) (j - i) (c - i)) ((bs.drop i).take (j - i)) := fun p hp => by
  have hm : m = bs.length := by
    obtain ⟨A', c', e, _⟩ := h p hp
    cases e; rfl
  subst hm
  have := (Vw.sub (F := F) (k := 1) h (i := i) (j := j) (by decide) hij hj) p hp
  rw [List.length_take, List.length_drop, Nat.min_eq_left (by omega), List.map_take, List.map_drop]
  simpa using this
abbrev root0 : List Value := [.int .i64 0, .int .i64 0, .int .i64 0, .slice none 0 0]
set_option maxRecDepth 100000 in
/-- A sector that is no root. -/
theorem slotBad_spec (F : HP) (d p i k : Nat) (S : PS) (hS : S.ok k) (hi : i < k) (hb : openOk (sec S.dk.now i) = true → leV (((sec S.dk.now i).drop 4).take 8) = 0) :
    Spec Try.prog 45 [.pointer (some ⟨p, 0, none⟩), .int .i64 i] [pagerO d p S] F (fun _ : Unit => True) (fun _ => .tuple #[.agg root0.toArray, .bool false]) (fun _ => [pagerO d p S]) := by
  intro ω w hh
  refine enter Try.func45 rfl Try.ntmps45 rfl hh ?_
  simp only [List.cons_append, List.nil_append, argsB]
  obtain ⟨h1, h2, h3, h4, h5, h6, h7, h8⟩ := hS
  obtain ⟨bs, hbs⟩ : ∃ bs, sec S.dk.now i = bs := ⟨_, rfl⟩
  have hsl : bs.length = 256 := by rw [← hbs]; exact sec_len (by have := i256 hi; rwa [h2])
  rw [hbs] at hb
  refine St.pg_open fun mv => ?_
  by_cases ho : openOk bs = true
  · have hz := hb ho
    obtain ⟨b2, hb2⟩ : ∃ b2, bs.drop 4 = b2 := ⟨_, rfl⟩
    have hl2 : b2.length = 252 := by rw [← hb2, List.length_drop, hsl]
    rw [hb2] at hz
    have hx := List.getElem?_eq_getElem (l := b2) (i := 20) (by omega)
    generalize b2[20]'_ = x at hx
    have hxl : x.toNat < 256 := x.toNat_lt
    have hcell : (b2.map bcell)[20]? = some (bcell x) := by rw [List.getElem?_map, hx]; rfl
    refine sr ?_
    refine r_al zero64 fun b4 => ?_
    refine rr (rd_assign rfl) ?_
    refine nx ?_
    refine sr ?_
    refine rr (rd_move rfl) ?_
    refine rr (rd_nilCheck rfl) ?_
    refine rr (rd_fa rfl fld85_0) ?_
    refine rr (rd_ld rfl row25) ?_
    refine rr (rd_move rfl) ?_
    refine rc (hs := diskRead_spec _ d k i S.dk h1 h2 h3 hi) (k := ?_)
    rintro v1 -
    rw [hbs]
    refine St.vw vw_bytes .head (fun A1 c1 hv hc _ _ => ?_)
    rw [hsl] at hv
    subst hv
    have hc1 : VwB (bytesO (.slice A1 256 c1) bs) (.slice (subA A1 c1 4 1) 252 (c1 - 4)) b2 := by
      have := vw_cut (vw_bytes' (A := A1) (c := c1) hsl) 4 256 (by decide) (by omega)
      rw [List.take_of_length_le (by rw [List.length_drop]; omega), hb2] at this
      exact this
    obtain ⟨sa, hsa⟩ : ∃ sa, subA A1 c1 4 1 = sa := ⟨_, rfl⟩
    rw [hsa] at hc1
    try simp only [List.cons_append, List.nil_append]
    refine rr (rd_move rfl) ?_
    refine rr (rd_extract rfl rfl) ?_
    refine rr (rd_extract rfl rfl) ?_
    refine rr (rd_assign rfl) ?_
    refine rr (rd_assign rfl) ?_
    refine run_nil ?_
    refine St.kp [(0, _), (4, _), (6, _), (7, _)] ?_
    refine St.then_n ?_
    refine do_seq ?_
    refine sr ?_
    refine rr (rd_move rfl) ?_
    refine rr ((rd_ne rfl rfl).eq (show _ = Value.bool false by simp)) ?_
    refine nx ?_
    refine do_cond_f rfl ?_
    refine do_skip ?_
    refine St.then_n ?_
    refine sr ?_
    refine rr (rd_move rfl) ?_
    refine rc (hs := opened_spec _ A1 c1 bs hsl (Vw.sep (vw_bytes' hsl) (by repeat (first | with_reducible exact Sel.head | apply Sel.tail)))) (k := ?_)
    rintro ⟨⟩ -
    rw [ho, hsa]
    try simp only [List.cons_append, List.nil_append]
    refine rr (rd_move rfl) ?_
    refine rr (rd_extract rfl rfl) ?_
    refine rr (rd_extract rfl rfl) ?_
    refine rr (rd_assign rfl) ?_
    refine rr (rd_assign rfl) ?_
    refine run_nil ?_
    refine St.kp [(0, _), (4, _), (8, _), (9, _)] ?_
    refine St.then_n ?_
    refine do_seq ?_
    refine sr ?_
    refine rr (rd_move rfl) ?_
    refine rr (rd_not rfl) ?_
    refine run_nil ?_
    refine St.vw_some (hl2 ▸ hc1) (by repeat (first | with_reducible exact Sel.head | apply Sel.tail)) (by omega) (fun g of hg _ _ => ?_)
    subst hg
    refine St.then_n ?_
    refine do_cond_f rfl ?_
    refine do_skip ?_
    refine St.then_n ?_
    refine do_seq ?_
    refine do_draw [[1, 2, 5, 8, 13, 14, 15, 16], [2, 5, 8, 13, 14, 15, 16], [5, 8, 13, 14, 15, 16], [4, 5, 8, 13, 14, 15, 16], [5, 8, 13, 14, 15, 16], [8, 13, 14, 15, 16], [7, 8, 13, 14, 15, 16], [8, 13, 14, 15, 16], [13, 14, 15, 16], [10, 11, 12, 16], [11, 12, 16], [12, 16], [16], [14, 15, 16], [15, 16], [16], []] (by kernel_rfl) rfl ?_
    refine ta 0 rfl (rd_move rfl) ?_
    refine ta 1 rfl (rd_slice (i := 0) (j := 8) Try.underlying44 ei5 rfl rfl rfl (by omega) (by omega) (by omega)) ?_
    refine ta 3 rfl (rd_move rfl) ?_
    refine ta 4 rfl (rd_slice (i := 8) (j := 12) Try.underlying44 ei5 rfl rfl rfl (by omega) (by omega) (by omega)) ?_
    refine ta 6 rfl (rd_move rfl) ?_
    refine ta 7 rfl (rd_slice (i := 12) (j := 20) Try.underlying44 ei5 rfl rfl rfl (by omega) (by omega) (by omega)) ?_
    refine ta 9 rfl (rd_move rfl) ?_
    refine ta 10 rfl ((rd_indexAddr Try.underlying44 ei5 rfl rfl (by omega) (by omega)).eq (show _ = Value.pointer (some ⟨g, of + 20, none⟩) from rfl)) ?_
    refine ta 11 rfl (rd_ld rfl row5 (Vw.cells1 (hl2 ▸ hc1) (by repeat (first | with_reducible exact Sel.head | apply Sel.tail)) (by omega) hcell)) ?_
    refine ta 12 rfl (rd_cvi Try.underlying5 Try.underlying3 rfl) ?_
    refine tr 2 ?_
    refine rc (hs := get_spec _ _ _ (Vw.sep (vw_cut hc1 0 8 (by decide) (by omega)) (by repeat (first | with_reducible exact Sel.head | apply Sel.tail))) (by rw [List.length_take]; omega)) (k := ?_)
    rintro ⟨⟩ -
    try simp only [List.cons_append, List.nil_append]
    refine nx ?_
    refine any_next (by apply bk 12 rfl (rd_cvi Try.underlying5 Try.underlying3 rfl); apply bk 11 rfl (rd_ld rfl row5 (Vw.cells1 (hl2 ▸ hc1) (by repeat (first | with_reducible exact Sel.head | apply Sel.tail)) (by omega) hcell)); apply bk 10 rfl ((rd_indexAddr Try.underlying44 ei5 rfl rfl (by omega) (by omega)).eq (show _ = Value.pointer (some ⟨g, of + 20, none⟩) from rfl)); apply bk 9 rfl (rd_move rfl); apply bk 7 rfl (rd_slice (i := 12) (j := 20) Try.underlying44 ei5 rfl rfl rfl (by omega) (by omega) (by omega)); apply bk 6 rfl (rd_move rfl); apply bk 4 rfl (rd_slice (i := 8) (j := 12) Try.underlying44 ei5 rfl rfl rfl (by omega) (by omega) (by omega)); apply bk 3 rfl (rd_move rfl); apply bd 1; apply bd 0; exact .nil) ?_
    refine tr 5 ?_
    refine rc (hs := get_spec _ _ _ (Vw.sep (vw_cut hc1 8 12 (by decide) (by omega)) (by repeat (first | with_reducible exact Sel.head | apply Sel.tail))) (by rw [List.length_take]; omega)) (k := ?_)
    rintro ⟨⟩ -
    try simp only [List.cons_append, List.nil_append]
    refine nx ?_
    refine any_next (by apply bk 12 rfl (rd_cvi Try.underlying5 Try.underlying3 rfl); apply bk 11 rfl (rd_ld rfl row5 (Vw.cells1 (hl2 ▸ hc1) (by repeat (first | with_reducible exact Sel.head | apply Sel.tail)) (by omega) hcell)); apply bk 10 rfl ((rd_indexAddr Try.underlying44 ei5 rfl rfl (by omega) (by omega)).eq (show _ = Value.pointer (some ⟨g, of + 20, none⟩) from rfl)); apply bk 9 rfl (rd_move rfl); apply bk 7 rfl (rd_slice (i := 12) (j := 20) Try.underlying44 ei5 rfl rfl rfl (by omega) (by omega) (by omega)); apply bk 6 rfl (rd_move rfl); apply bd 4; apply bd 3; exact .nil) ?_
    refine tr 8 ?_
    refine rc (hs := get_spec _ _ _ (Vw.sep (vw_cut hc1 12 20 (by decide) (by omega)) (by repeat (first | with_reducible exact Sel.head | apply Sel.tail))) (by rw [List.length_take]; omega)) (k := ?_)
    rintro ⟨⟩ -
    try simp only [List.cons_append, List.nil_append]
    refine nx ?_
    refine any_next (by apply bk 12 rfl (rd_cvi Try.underlying5 Try.underlying3 rfl); apply bk 11 rfl (rd_ld rfl row5 (Vw.cells1 (hl2 ▸ hc1) (by repeat (first | with_reducible exact Sel.head | apply Sel.tail)) (by omega) hcell)); apply bk 10 rfl ((rd_indexAddr Try.underlying44 ei5 rfl rfl (by omega) (by omega)).eq (show _ = Value.pointer (some ⟨g, of + 20, none⟩) from rfl)); apply bk 9 rfl (rd_move rfl); apply bd 7; apply bd 6; exact .nil) ?_
    refine ta 13 rfl (rd_assign rfl) ?_
    refine ta 14 rfl (rd_assign rfl) ?_
    refine ta 15 rfl (rd_assign rfl) ?_
    refine ta 16 rfl (rd_assign rfl) ?_
    refine any_nil (by kernel_rfl) ?_
    refine St.kp [(0, _), (4, _), (8, _), (10, _), (11, _), (12, _), (13, _)] ?_
    refine St.then_n ?_
    refine do_seq ?_
    refine sr ?_
    refine rr (rd_move rfl) ?_
    refine rr ((rd_lt rfl rfl).eq (show _ = Value.bool true from congrArg _ (decide_eq_true (by simp only [List.drop_zero, Nat.sub_zero]; omega)))) ?_
    refine rr (rd_move rfl) ?_
    first | refine sk ?_ | (refine rr (rd_move rfl) ?_)
    first | refine sk ?_ | (refine rr (rd_gt rfl rfl) ?_)
    refine rr (rd_pick rfl rfl) ?_
    refine rr (rd_move rfl) ?_
    first | refine sk ?_ | (refine rr (rd_move rfl) ?_)
    first | refine sk ?_ | (refine rr (rd_move rfl) ?_)
    first | refine sk ?_ | (refine rr (rd_nilCheck rfl) ?_)
    first | refine sk ?_ | (refine rr (rd_fa rfl fld85_2) ?_)
    first | refine sk ?_ | (refine rr (rd_ld rfl row3) ?_)
    first | refine sk ?_ | (refine rr (rd_cvu Try.underlying3 Try.underlying120 rfl) ?_)
    first | refine sk ?_ | (refine rr (rd_gt rfl rfl) ?_)
    refine rr (rd_pick rfl rfl) ?_
    refine rr (rd_move rfl) ?_
    first | refine sk ?_ | (refine rr (rd_move rfl) ?_)
    first | refine sk ?_ | (refine rr (rd_lt rfl rfl) ?_)
    refine rr (rd_pick rfl rfl) ?_
    refine rr (rd_move rfl) ?_
    first | refine sk ?_ | (refine rr (rd_move rfl) ?_)
    first | refine sk ?_ | (refine rr (rd_gt rfl rfl) ?_)
    refine rr (rd_pick rfl rfl) ?_
    refine rr (rd_move rfl) ?_
    first | refine sk ?_ | (refine rr (rd_move rfl) ?_)
    first | refine sk ?_ | (refine rr (rd_gt rfl rfl) ?_)
    refine rr (rd_pick rfl rfl) ?_
    refine run_nil ?_
    refine St.kp [(4, _), (8, _), (10, _), (11, _), (12, _), (13, _), (73, _)] ?_
    refine St.then_n ?_
    refine do_cond_t rfl ?_
    refine sr ?_
    refine rr (rd_bd [_, _, _, _] zero64 plc64) ?_
    first | refine r_sa row64 ?_ | refine r_sm row64 ?_
    refine rr (rd_assign rfl) ?_
    refine run_nil ?_
    refine St.kp [(4, _), (5, _)] ?_
    refine St.then_n ?_
    refine do_ret ?_
    refine St.then_r ?_
    refine do_ret2 Try.results45 (res_cell_row (vs := [_, _, _, _]) rfl row64 rfl (cells_pts (by repeat (first | with_reducible exact Sel.head | apply Sel.tail)) rfl)) (res_tmp rfl) ?_
    intro w hw
    exact ⟨(), trivial, rfl, Holds.sb (Holds.pg_shut S mv hw)⟩
  · skip
    refine sr ?_
    refine r_al zero64 fun b4 => ?_
    refine rr (rd_assign rfl) ?_
    refine nx ?_
    refine sr ?_
    refine rr (rd_move rfl) ?_
    refine rr (rd_nilCheck rfl) ?_
    refine rr (rd_fa rfl fld85_0) ?_
    refine rr (rd_ld rfl row25) ?_
    refine rr (rd_move rfl) ?_
    refine rc (hs := diskRead_spec _ d k i S.dk h1 h2 h3 hi) (k := ?_)
    rintro v1 -
    rw [hbs]
    refine St.vw vw_bytes .head (fun A1 c1 hv hc _ _ => ?_)
    rw [hsl] at hv
    subst hv
    try simp only [List.cons_append, List.nil_append]
    refine rr (rd_move rfl) ?_
    refine rr (rd_extract rfl rfl) ?_
    refine rr (rd_extract rfl rfl) ?_
    refine rr (rd_assign rfl) ?_
    refine rr (rd_assign rfl) ?_
    refine run_nil ?_
    refine St.kp [(0, _), (4, _), (6, _), (7, _)] ?_
    refine St.then_n ?_
    refine do_seq ?_
    refine sr ?_
    refine rr (rd_move rfl) ?_
    refine rr ((rd_ne rfl rfl).eq (show _ = Value.bool false by simp)) ?_
    refine nx ?_
    refine do_cond_f rfl ?_
    refine do_skip ?_
    refine St.then_n ?_
    refine sr ?_
    refine rr (rd_move rfl) ?_
    refine rc (hs := opened_spec _ A1 c1 bs hsl (Vw.sep (vw_bytes' hsl) (by repeat (first | with_reducible exact Sel.head | apply Sel.tail)))) (k := ?_)
    rintro ⟨⟩ -
    rw [Bool.eq_false_iff.2 ho]
    try simp only [List.cons_append, List.nil_append]
    refine rr (rd_move rfl) ?_
    refine rr (rd_extract rfl rfl) ?_
    refine rr (rd_extract rfl rfl) ?_
    refine rr (rd_assign rfl) ?_
    refine rr (rd_assign rfl) ?_
    refine run_nil ?_
    refine St.kp [(0, _), (4, _), (8, _), (9, _)] ?_
    refine St.then_n ?_
    refine do_seq ?_
    refine sr ?_
    refine rr (rd_move rfl) ?_
    refine rr (rd_not rfl) ?_
    refine nx ?_
    refine do_cond_t rfl ?_
    refine sr ?_
    refine rr (rd_bd [_, _, _, _] zero64 plc64) ?_
    first | refine r_sa row64 ?_ | refine r_sm row64 ?_
    refine rr (rd_assign rfl) ?_
    refine run_nil ?_
    refine St.kp [(4, _), (5, _)] ?_
    refine St.then_n ?_
    refine do_ret ?_
    refine St.then_r ?_
    refine do_ret2 Try.results45 (res_cell_row (vs := [_, _, _, _]) rfl row64 rfl (cells_pts (by repeat (first | with_reducible exact Sel.head | apply Sel.tail)) rfl)) (res_tmp rfl) ?_
    intro w hw
    exact ⟨(), trivial, rfl, Holds.sb (Holds.pg_shut S mv hw)⟩
theorem rootOwn_spec (F : HP) (a b c : Int) (v : Value) (mb : List UInt8) (hF : VwB F v mb) (hl : mb.length ≤ 1099511627776) :
    Spec Try.prog 46 [.agg #[.int .i64 a, .int .i64 b, .int .i64 c, v]] [] F (fun _ : Value => True) (fun v' => .agg #[.int .i64 a, .int .i64 b, .int .i64 c, v']) (fun v' => [bytesO v' mb]) := by
  intro ω w hh
  refine enter Try.func46 rfl Try.ntmps46 rfl hh ?_
  simp only [List.nil_append, argsB]
  refine St.vw hF .head (fun A0 c0 hv _ _ _ => ?_)
  subst hv
  refine sr ?_
  refine r_bx fun b1 => ?_
  refine r_al zero64 fun b2 => ?_
  refine nx ?_
  refine sr ?_
  refine rr (rd_fa rfl fld64_3) ?_
  refine rr (rd_ld rfl row44) ?_
  refine rc (hs := cloneB_spec _ _ mb (hF.sep (by repeat (first | with_reducible exact Sel.head | apply Sel.tail))) hl) (k := ?_)
  rintro v1 -
  refine St.vw vw_bytes .head (fun A1 c1 hv _ _ _ => ?_)
  subst hv
  try simp only [List.cons_append, List.nil_append]
  refine rr (rd_fa rfl fld64_3) ?_
  refine r_st row44 ?_
  refine run_nil ?_
  refine St.kp [(1, _), (2, _)] ?_
  refine St.then_n ?_
  refine sr ?_
  refine rr (rd_ldr [_, _, _, _] rfl row64) ?_
  first | refine r_sa row64 ?_ | refine r_sm row64 ?_
  refine nx ?_
  refine do_ret ?_
  refine do_ret1 Try.results46 (res_cell_row (vs := [_, _, _, _]) rfl row64 rfl (cells_pts (by repeat (first | with_reducible exact Sel.head | apply Sel.tail)) rfl)) ?_
  intro w hw
  exact ⟨_, trivial, rfl, hw.sb⟩
/-- A pager that was opened on a new disk of n + 2 sectors. -/
def pg0 (n : Nat) : PS := ⟨⟨List.replicate ((n + 2) * 256) 0, List.replicate ((n + 2) * 256) 0, [], false, false, false⟩, 0, n, List.replicate 4096 0, 0, -1, 1, [], false⟩
theorem pg0_ok {n : Nat} (h : n + 2 ≤ 4096) : (pg0 n).ok (n + 2) := ⟨List.length_replicate, List.length_replicate, h, by show 0 + 2 + n ≤ n + 2; omega, List.length_replicate, rfl, rfl, rfl⟩
theorem leV_zero : ∀ n : Nat, leV (List.replicate n (0 : UInt8)) = 0
  | 0 => rfl
  | n + 1 => by rw [List.replicate_succ, leV, leV_zero n]; rfl
theorem pg0_bad {n i : Nat} : openOk (sec (pg0 n).dk.now i) = true → leV (((sec (pg0 n).dk.now i).drop 4).take 8) = 0 := fun _ => by
  show leV ((((List.drop _ (List.replicate _ _)).take 256).drop 4).take 8) = 0
  rw [List.drop_replicate, List.take_replicate, List.drop_replicate, List.take_replicate, leV_zero]
theorem pg_root {d : Nat} {S : PS} {mv : Value} (h4 : S.is.length = 4096) : ((pgC d S mv).drop 4099).take 4 = [.int .i64 S.gen, .int .i64 S.page, .int .i64 S.next, mv] := by
  unfold pgC
  rw [← List.append_assoc, List.drop_left' (by simp [h4])]
  rfl
set_option maxRecDepth 100000 in
set_option maxHeartbeats 1000000 in
theorem open0_spec (F : HP) (d n : Nat) (h1 : 1 ≤ n) (h2 : n + 2 ≤ 4096) :
    Spec Try.prog 24 [.pointer (some ⟨d, 0, none⟩), .int .i64 0, .int .i64 ((n + 2 : Nat) : Int)] [diskO d (pg0 n).dk] F (fun _ : Nat × Option Addr × Nat => True) (fun x => .tuple #[.pointer (some ⟨x.1, 0, none⟩), .agg #[.int .i64 0, .int .i64 (-1), .int .i64 1, .slice x.2.1 0 x.2.2], .int .i64 0]) (fun x => [pagerO d x.1 (pg0 n)]) := by
  intro ω w hh
  refine enter Try.func24 rfl Try.ntmps24 rfl hh ?_
  simp only [List.cons_append, List.nil_append, argsB]
  have hok := pg0_ok h2
  refine sr ?_
  refine rr (rd_assign rfl) ?_
  refine r_al zero64 fun b7 => ?_
  refine rr (rd_assign rfl) ?_
  refine nx ?_
  refine do_seq ?_
  refine sr ?_
  refine rr (rd_move rfl) ?_
  refine rr (rd_ptr_eq_nil Try.underlying25 rfl rfl) ?_
  refine nx ?_
  refine do_cond_f rfl ?_
  refine do_skip ?_
  refine St.then_n ?_
  refine do_seq ?_
  refine sr ?_
  refine rr (rd_move rfl) ?_
  refine rc (hs := diskSize_spec _ d (n + 2) (pg0 n).dk hok.safe h2) (k := ?_)
  rintro ⟨⟩ -
  try simp only [List.cons_append, List.nil_append]
  refine rr (rd_assign rfl) ?_
  refine run_nil ?_
  refine St.kp [(0, _), (1, _), (2, _), (7, _), (9, _)] ?_
  refine St.then_n ?_
  refine sr ?_
  refine rr (rd_move rfl) ?_
  refine rr ((rd_lt rfl rfl).eq (show _ = Value.bool false from rfl)) ?_
  refine rr (rd_move rfl) ?_
  first | refine sk ?_ | (refine rr (rd_move rfl) ?_)
  first | refine sk ?_ | (refine rr (rd_move rfl) ?_)
  first | refine sk ?_ | (refine rr ((rd_gt rfl rfl).eq (show _ = Value.bool false from congrArg _ (decide_eq_false (by omega)))) ?_)
  refine rr (rd_pick rfl rfl) ?_
  refine rr (rd_move rfl) ?_
  first | refine sk ?_ | (refine rr (rd_move rfl) ?_)
  first | refine sk ?_ | (refine rr ((rd_lt rfl rfl).eq (show _ = Value.bool false from congrArg _ (decide_eq_false (by omega)))) ?_)
  refine rr (rd_pick rfl rfl) ?_
  refine rr (rd_move rfl) ?_
  first | refine sk ?_ | (refine rr (rd_move rfl) ?_)
  first | refine sk ?_ | (refine rr (rd_move rfl) ?_)
  first | refine sk ?_ | (refine rr (rd_move rfl) ?_)
  first | refine sk ?_ | (refine rr (rd_subi rfl rfl) ?_)
  first | refine sk ?_ | (refine rr ((rd_gt rfl rfl).eq (show _ = Value.bool false from congrArg _ (decide_eq_false (by omega)))) ?_)
  refine rr (rd_pick rfl rfl) ?_
  refine run_nil ?_
  refine St.kp [(0, _), (1, _), (2, _), (7, _), (36, _)] ?_
  refine St.then_n ?_
  refine do_cond_f rfl ?_
  refine do_skip ?_
  refine St.then_n ?_
  refine sr ?_
  refine rr (rd_move rfl) ?_
  refine rr (rd_move rfl) ?_
  refine rr (rd_move rfl) ?_
  refine rr ((rd_subi rfl rfl).eq (show _ = Value.int .i64 (n : Int) from congrArg _ (by omega))) ?_
  refine rr (rd_bd [_, _, _, _] zero64 plc64) ?_
  refine rr (rd_buildM (l := [(0, Operand.tmp 38), (1, Operand.tmp 39), (2, Operand.tmp 41), (4, Operand.tmp 42)]) (vs := pgC d (pg0 n) (.slice none 0 0)) zero85 plc85 rfl (by kernel_rfl)) ?_
  refine r_bx fun b44 => ?_
  refine rr (rd_assign rfl) ?_
  refine run_nil ?_
  refine St.kp [(1, _), (7, _), (10, _)] ?_
  refine St.then_n ?_
  refine do_seq ?_
  refine sr ?_
  refine rr (rd_move rfl) ?_
  refine nx ?_
  refine do_block ?_
  refine St.own_nil (T := 5) (k := 1) (St.ent (Q := bytesO (.slice none 0 0) (pg0 n).mb) (fun _ h => h) ?_)
  refine St.pg_shut (d := d) (p := b44) (pg0 n) (.slice none 0 0) ?_
  refine do_lp (fun i : Nat => i ≤ 2) (fun i => [(1, .int .i64 0), (7, .pointer (some ⟨b7, 0, none⟩)), (10, .pointer (some ⟨b44, 0, none⟩)), (45, .int .i64 i)]) (fun _ => [pagerO d b44 (pg0 n), pts b7 64 root0, F]) (fun i => 2 - i) 0 (Nat.zero_le _) ?_
  intro i hi
  refine sr ?_
  refine rr (rd_lt rfl rfl) ?_
  refine nx ?_
  refine do_seq ?_
  first | refine do_condp rfl (fun h46 => ?_) (fun h46 => ?_) | refine do_cond rfl (fun h46 => ?_) (fun h46 => ?_)
  · refine do_skip ?_
    refine St.then_n ?_
    refine do_seq ?_
    refine do_block ?_
    refine sr ?_
    refine rr (rd_move rfl) ?_
    refine rr (rd_assign rfl) ?_
    refine nx ?_
    refine sr ?_
    refine rr (rd_move rfl) ?_
    refine rr (rd_move rfl) ?_
    refine rr (rd_move rfl) ?_
    refine rr ((rd_addi rfl rfl).eq (show _ = Value.int .i64 (i : Int) from congrArg _ (by omega))) ?_
    refine rc (hs := slotBad_spec _ d b44 i (n + 2) (pg0 n) hok (by omega) pg0_bad) (k := ?_)
    rintro ⟨⟩ -
    try simp only [List.cons_append, List.nil_append]
    refine rr (rd_move rfl) ?_
    refine rr (rd_extract rfl rfl) ?_
    refine rr (rd_extract rfl rfl) ?_
    refine r_al zero64 fun b12 => ?_
    first | refine r_sa row64 ?_ | refine r_sm row64 ?_
    refine rr (rd_assign rfl) ?_
    refine run_nil ?_
    refine St.kp [(1, _), (7, _), (10, _), (12, _), (13, _), (45, _)] ?_
    refine St.then_n ?_
    refine do_seq ?_
    refine do_draw [[1, 2, 3, 4, 5, 6, 7, 8, 9, 10], [2, 3, 4, 5, 6, 7, 8, 9, 10], [3, 9, 10], [9, 10], [5, 6, 7, 8, 9, 10], [6, 7, 8, 9, 10], [7, 8, 9, 10], [8, 9, 10], [9, 10], [10], []] (by kernel_rfl) rfl ?_
    refine ta 0 rfl (rd_move rfl) ?_
    refine ta 1 rfl (rd_move rfl) ?_
    first | refine ts 2 ?_ | refine ta 2 rfl (rd_fa rfl fld64_0) ?_
    first | refine ts 3 ?_ | refine ta 3 rfl (rd_ld rfl row2) ?_
    first | refine ts 4 ?_ | refine ta 4 rfl (rd_move rfl) ?_
    first | refine ts 5 ?_ | refine ta 5 rfl (rd_nilCheck rfl) ?_
    first | refine ts 6 ?_ | refine ta 6 rfl (rd_fa rfl fld85_4) ?_
    first | refine ts 7 ?_ | refine ta 7 rfl (rd_fa rfl fld64_0) ?_
    first | refine ts 8 ?_ | refine ta 8 rfl (rd_ld rfl row2) ?_
    first | refine ts 9 ?_ | refine ta 9 rfl (rd_gt rfl rfl) ?_
    refine ta 10 rfl (rd_pick rfl rfl) ?_
    refine any_nil (by kernel_rfl) ?_
    refine St.then_n ?_
    refine do_cond_f rfl ?_
    refine do_skip ?_
    refine St.blk_n ?_
    refine St.then_n ?_
    refine do_region ?_
    refine rr (rd_addi rfl rfl) ?_
    refine rr (rd_move rfl) ?_
    refine run_nil ?_
    refine St.kp [(1, _), (7, _), (10, _), (45, _), (58, _), (59, _), (60, _), (61, _), (62, _), (63, _), (64, _), (65, _)] ?_
    refine St.then_n ?_
    exact loop_bk (i + 1) (by omega) (hμ := by omega)
  · refine St.sl (P := pagerO d b44 (pg0 n)) (St.pg_open fun mv => ?_)
    refine do_exit ?_
    refine St.then_x ?_
    refine St.then_x ?_
    refine St.blk_s ?_
    refine St.then_n ?_
    refine sr ?_
    refine rr (rd_move rfl) ?_
    refine rr (rd_move rfl) ?_
    refine rr (rd_nilCheck rfl) ?_
    refine rr (rd_fa rfl fld85_4) ?_
    refine rr (rd_load_row (vs := [.int .i64 0, .int .i64 (-1), .int .i64 1, mv]) rfl row64 rfl (cells_pts (by repeat (first | with_reducible exact Sel.head | apply Sel.tail)) (pg_root (S := pg0 n) List.length_replicate))) ?_
    refine rc (hs := rootOwn_spec _ 0 (-1) 1 mv [] (Vw.sep (X := bytesO mv (pg0 n).mb) vw_bytes (by repeat (first | with_reducible exact Sel.head | apply Sel.tail))) (Nat.zero_le _)) (k := ?_)
    rintro v1 -
    refine St.vw vw_bytes .head (fun A1 c1 hv1 _ _ _ => ?_)
    subst hv1
    try simp only [List.cons_append, List.nil_append]
    refine rr (rd_assign rfl) ?_
    first | refine r_sa row64 ?_ | refine r_sm row64 ?_
    refine rr (rd_assign rfl) ?_
    refine run_nil ?_
    refine St.kp [(6, _), (7, _), (8, _)] ?_
    refine St.then_n ?_
    refine do_ret ?_
    refine do_ret3 Try.results24 (res_tmp rfl) (res_cell_row (vs := [_, _, _, _]) rfl row64 rfl (cells_pts (by repeat (first | with_reducible exact Sel.head | apply Sel.tail)) rfl)) (res_tmp rfl) ?_
    intro w hw
    exact ⟨(b44, A1, c1), trivial, rfl, Holds.sb (Holds.pg_shut (d := d) (p := b44) (pg0 n) mv hw)⟩
end Go.Proofs.Ytgeldfgcicjidaa
