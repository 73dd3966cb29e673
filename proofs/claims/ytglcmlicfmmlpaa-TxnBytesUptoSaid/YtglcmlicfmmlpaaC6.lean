/-
  Reading bytes: the program's numbers.
-/
import Derived.Test.YtglcmlicfmmlpaaC5
namespace Go.Proofs.Ytglcmlicfmmlpaa
open Go.RowKit
set_option linter.unusedSimpArgs false
set_option linter.unusedVariables false

theorem scan_spec (F : HP) (v : Value) (l : List UInt8) (hF : VwB F v l) (hl : l.length ≤ 140737488355328) :
    Spec Try.prog 136 [v] [] F (fun _ : Unit => True) (fun _ => .tuple #[.int .u64 (scanF 0 0 l).1, .int .i64 (scanF 0 0 l).2.1, .int .i64 (scanF 0 0 l).2.2]) (fun _ => []) := by
  intro ω w hh
  refine enter Try.func136 rfl Try.ntmps136 rfl hh ?_
  simp only [List.nil_append, argsB]
  refine St.vw hF .head (fun A cp hv h1 h2 _ => ?_)
  subst hv
  refine do_seq ?_
  refine do_region ?_
  refine run_read rfl (by decide) (fun _ => nofun) (rd_assign rfl) ?_
  refine run_read rfl (by decide) (fun _ => nofun) (rd_assign rfl) ?_
  refine run_read rfl (by decide) (fun _ => nofun) (rd_assign rfl) ?_
  refine run_nil ?_
  refine St.then_n ?_
  refine do_scope ?_
  refine do_seq ?_
  refine do_region ?_
  refine run_read rfl (by decide) (fun _ => nofun) (rd_assign rfl) ?_
  refine run_read rfl (by decide) (fun _ => nofun) (rd_assign rfl) ?_
  refine run_nil ?_
  refine St.then_n ?_
  refine do_seq ?_
  refine do_region ?_
  refine run_read rfl (by decide) (fun _ => nofun) (rd_assign rfl) ?_
  refine run_nil ?_
  refine St.then_n ?_
  refine do_seq ?_
  refine do_label ?_
  refine St.then_n ?_
  refine do_seq ?_
  refine do_seq ?_
  refine do_region ?_
  refine run_read rfl (by decide) (fun _ => nofun) (rd_move rfl) ?_
  refine run_read rfl (by decide) (fun _ => nofun) (rd_len Try.underlying26 rfl) ?_
  refine run_read rfl (by decide) (fun _ => nofun) (rd_move rfl) ?_
  refine run_nil ?_
  refine St.keep (β' := [(5, _), (6, _), (7, _), (10, _), (11, _), (12, _)]) ⟨rfl, rfl, rfl, rfl, rfl, rfl, trivial⟩ ?_
  refine St.then_n ?_
  refine do_block ?_
  refine do_loop (fun y : Nat × Nat => y.1 ≤ l.length ∧ y.1 ≤ 10 ∧ (y.1 < l.length → y.1 ≤ 9) ∧ y.2 < 128 ^ y.1 ∧ scanF y.1 y.2 (l.drop y.1) = scanF 0 0 l) (fun y => [(5, .int .u64 y.2), (6, .int .i64 10), (7, .int .i64 0), (10, .slice A l.length cp), (11, .int .i64 l.length), (12, .int .i64 y.1)]) (fun _ => [F]) (fun y => l.length - y.1) (0, 0) ⟨Nat.zero_le _, Nat.zero_le _, fun _ => Nat.zero_le _, by simp, rfl⟩ ⟨rfl, rfl, rfl, rfl, rfl, rfl, trivial⟩ (by repeat (first | exact Pick.nil | apply Pick.cons (by repeat (first | with_reducible exact Sel.head | apply Sel.tail)))) ?_
  rintro ⟨i, acc⟩ ⟨hi, hi10, hi9, ha, hs⟩
  dsimp only at hi hi10 hi9 ha hs ⊢
  refine do_seq ?_
  refine do_region ?_
  refine run_read rfl (by decide) (fun _ => nofun) (rd_lt rfl rfl) ?_
  refine run_nil ?_
  refine St.then_n ?_
  refine do_seq ?_
  first | refine do_condp rfl (fun h13 => ?_) (fun h13 => ?_) | refine do_cond rfl (fun h13 => ?_) (fun h13 => ?_)
  · have hx := List.getElem?_eq_getElem (l := l) (i := i) (by omega)
    have hd := List.drop_eq_getElem_cons (l := l) (i := i) (by omega)
    have hi9 := hi9 (by omega)
    generalize l[i]'_ = c at hx hd
    have hc : c.toNat < 256 := c.toNat_lt
    have hcell : (l.map bcell)[i]? = some (bcell c) := by rw [List.getElem?_map, hx]; rfl
    rw [hd] at hs
    refine St.vw_some hF (by repeat (first | with_reducible exact Sel.head | apply Sel.tail)) (by omega) (fun g of hg _ _ => ?_)
    subst hg
    refine do_skip ?_
    refine St.then_n ?_
    refine do_seq ?_
    refine do_block ?_
    refine do_seq ?_
    refine do_region ?_
    refine run_read rfl (by decide) (fun _ => nofun) (rd_move rfl) ?_
    refine run_read rfl (by decide) (fun _ => nofun) ((rd_indexAddr Try.underlying26 ei5 rfl rfl (by omega) (by omega)).eq (show _ = Value.pointer (some ⟨g, of + i, none⟩) by simp)) ?_
    refine run_read rfl (by decide) (fun _ => nofun) (rd_load rfl row5 (Vw.cells1 hF (by repeat (first | with_reducible exact Sel.head | apply Sel.tail)) (by omega) hcell)) ?_
    refine run_read rfl (by decide) (fun _ => nofun) (rd_assign rfl) ?_
    refine run_read rfl (by decide) (fun _ => nofun) (rd_assign rfl) ?_
    refine run_nil ?_
    refine St.keep (β' := [(5, _), (6, _), (7, _), (8, _), (9, _), (10, _), (11, _), (12, _)]) ⟨rfl, rfl, rfl, rfl, rfl, rfl, rfl, rfl, trivial⟩ ?_
    refine St.then_n ?_
    refine do_seq ?_
    refine do_seq ?_
    refine do_cut (fun b : Bool => b = decide (i = 9 ∧ 1 < c.toNat ∨ 0 < i ∧ c.toNat = 0)) (fun b => [(5, .int .u64 acc), (6, .int .i64 10), (7, .int .i64 0), (8, .int .i64 i), (9, .int .u8 c.toNat), (10, .slice (some ⟨g, of, none⟩) l.length cp), (11, .int .i64 l.length), (12, .int .i64 i), (30, .bool b)]) (fun _ => [F]) (fun K hK => ?_) ?_
    · rcases (show (i = 9 ∧ 1 < c.toNat) ∨ (i = 9 ∧ ¬ 1 < c.toNat) ∨ (i ≠ 9 ∧ i = 0) ∨ (i ≠ 9 ∧ 0 < i) by omega) with hA | hA | hA | hA
      · refine do_region ?_
        refine run_read rfl (by decide) (fun _ => nofun) (rd_move rfl) ?_
        first | refine run_read rfl (by decide) (fun _ => nofun) ((rd_eq rfl rfl).eq (show _ = Value.bool true by simp; omega)) ?_ | refine run_read rfl (by decide) (fun _ => nofun) ((rd_eq rfl rfl).eq (show _ = Value.bool false by simp; omega)) ?_
        refine run_read rfl (by decide) (fun _ => nofun) (rd_move rfl) ?_
        first | (refine run_skip rfl rfl ?_) | (refine run_read rfl (by decide) (fun _ => nofun) (rd_move rfl) ?_)
        first | (refine run_skip rfl rfl ?_) | (first | refine run_read rfl (by decide) (fun _ => nofun) ((rd_gt rfl rfl).eq (show _ = Value.bool true by simp; omega)) ?_ | refine run_read rfl (by decide) (fun _ => nofun) ((rd_gt rfl rfl).eq (show _ = Value.bool false by simp; omega)) ?_)
        first | refine run_read rfl (by decide) (fun _ => nofun) (rd_pick_t rfl rfl) ?_ | refine run_read rfl (by decide) (fun _ => nofun) (rd_pick_f rfl rfl) ?_
        refine run_read rfl (by decide) (fun _ => nofun) (rd_move rfl) ?_
        first | (refine run_skip rfl rfl ?_) | (refine run_read rfl (by decide) (fun _ => nofun) (rd_move rfl) ?_)
        first | (refine run_skip rfl rfl ?_) | (first | refine run_read rfl (by decide) (fun _ => nofun) ((rd_gt rfl rfl).eq (show _ = Value.bool true by simp; omega)) ?_ | refine run_read rfl (by decide) (fun _ => nofun) ((rd_gt rfl rfl).eq (show _ = Value.bool false by simp; omega)) ?_)
        first | (refine run_skip rfl rfl ?_) | (refine run_read rfl (by decide) (fun _ => nofun) (rd_move rfl) ?_)
        first | (refine run_skip rfl rfl ?_) | (refine run_read rfl (by decide) (fun _ => nofun) (rd_move rfl) ?_)
        first | (refine run_skip rfl rfl ?_) | (refine run_read rfl (by decide) (fun _ => nofun) (rd_eq rfl rfl) ?_)
        first | (refine run_skip rfl rfl ?_) | (first | refine run_read rfl (by decide) (fun _ => nofun) (rd_pick_t rfl rfl) ?_ | refine run_read rfl (by decide) (fun _ => nofun) (rd_pick_f rfl rfl) ?_)
        first | refine run_read rfl (by decide) (fun _ => nofun) (rd_pick_t rfl rfl) ?_ | refine run_read rfl (by decide) (fun _ => nofun) (rd_pick_f rfl rfl) ?_
        refine run_nil ?_
        refine St.keep (β' := [(5, _), (6, _), (7, _), (8, _), (9, _), (10, _), (11, _), (12, _), (20, _), (21, _), (24, _), (25, _), (26, _), (27, _), (28, _), (29, _), (30, _)]) ⟨rfl, rfl, rfl, rfl, rfl, rfl, rfl, rfl, rfl, rfl, rfl, rfl, rfl, rfl, rfl, rfl, rfl, trivial⟩ ?_
        refine St.then_n ?_
        exact St.keep (β' := [(5, _), (6, _), (7, _), (8, _), (9, _), (10, _), (11, _), (12, _), (30, _)]) ⟨rfl, rfl, rfl, rfl, rfl, rfl, rfl, rfl, rfl, trivial⟩ (hK _ (by first | exact (decide_eq_true (by omega)).symm | exact (decide_eq_false (by omega)).symm | exact decide_eq_decide.2 (by omega)))
      · refine do_region ?_
        refine run_read rfl (by decide) (fun _ => nofun) (rd_move rfl) ?_
        first | refine run_read rfl (by decide) (fun _ => nofun) ((rd_eq rfl rfl).eq (show _ = Value.bool true by simp; omega)) ?_ | refine run_read rfl (by decide) (fun _ => nofun) ((rd_eq rfl rfl).eq (show _ = Value.bool false by simp; omega)) ?_
        refine run_read rfl (by decide) (fun _ => nofun) (rd_move rfl) ?_
        first | (refine run_skip rfl rfl ?_) | (refine run_read rfl (by decide) (fun _ => nofun) (rd_move rfl) ?_)
        first | (refine run_skip rfl rfl ?_) | (first | refine run_read rfl (by decide) (fun _ => nofun) ((rd_gt rfl rfl).eq (show _ = Value.bool true by simp; omega)) ?_ | refine run_read rfl (by decide) (fun _ => nofun) ((rd_gt rfl rfl).eq (show _ = Value.bool false by simp; omega)) ?_)
        first | refine run_read rfl (by decide) (fun _ => nofun) (rd_pick_t rfl rfl) ?_ | refine run_read rfl (by decide) (fun _ => nofun) (rd_pick_f rfl rfl) ?_
        refine run_read rfl (by decide) (fun _ => nofun) (rd_move rfl) ?_
        first | (refine run_skip rfl rfl ?_) | (refine run_read rfl (by decide) (fun _ => nofun) (rd_move rfl) ?_)
        first | (refine run_skip rfl rfl ?_) | (first | refine run_read rfl (by decide) (fun _ => nofun) ((rd_gt rfl rfl).eq (show _ = Value.bool true by simp; omega)) ?_ | refine run_read rfl (by decide) (fun _ => nofun) ((rd_gt rfl rfl).eq (show _ = Value.bool false by simp; omega)) ?_)
        first | (refine run_skip rfl rfl ?_) | (refine run_read rfl (by decide) (fun _ => nofun) (rd_move rfl) ?_)
        first | (refine run_skip rfl rfl ?_) | (refine run_read rfl (by decide) (fun _ => nofun) (rd_move rfl) ?_)
        first | (refine run_skip rfl rfl ?_) | (refine run_read rfl (by decide) (fun _ => nofun) (rd_eq rfl rfl) ?_)
        first | (refine run_skip rfl rfl ?_) | (first | refine run_read rfl (by decide) (fun _ => nofun) (rd_pick_t rfl rfl) ?_ | refine run_read rfl (by decide) (fun _ => nofun) (rd_pick_f rfl rfl) ?_)
        first | refine run_read rfl (by decide) (fun _ => nofun) (rd_pick_t rfl rfl) ?_ | refine run_read rfl (by decide) (fun _ => nofun) (rd_pick_f rfl rfl) ?_
        refine run_nil ?_
        refine St.keep (β' := [(5, _), (6, _), (7, _), (8, _), (9, _), (10, _), (11, _), (12, _), (20, _), (21, _), (24, _), (25, _), (26, _), (27, _), (28, _), (29, _), (30, _)]) ⟨rfl, rfl, rfl, rfl, rfl, rfl, rfl, rfl, rfl, rfl, rfl, rfl, rfl, rfl, rfl, rfl, rfl, trivial⟩ ?_
        refine St.then_n ?_
        exact St.keep (β' := [(5, _), (6, _), (7, _), (8, _), (9, _), (10, _), (11, _), (12, _), (30, _)]) ⟨rfl, rfl, rfl, rfl, rfl, rfl, rfl, rfl, rfl, trivial⟩ (hK _ (by first | exact (decide_eq_true (by omega)).symm | exact (decide_eq_false (by omega)).symm | exact decide_eq_decide.2 (by omega)))
      · refine do_region ?_
        refine run_read rfl (by decide) (fun _ => nofun) (rd_move rfl) ?_
        first | refine run_read rfl (by decide) (fun _ => nofun) ((rd_eq rfl rfl).eq (show _ = Value.bool true by simp; omega)) ?_ | refine run_read rfl (by decide) (fun _ => nofun) ((rd_eq rfl rfl).eq (show _ = Value.bool false by simp; omega)) ?_
        refine run_read rfl (by decide) (fun _ => nofun) (rd_move rfl) ?_
        first | (refine run_skip rfl rfl ?_) | (refine run_read rfl (by decide) (fun _ => nofun) (rd_move rfl) ?_)
        first | (refine run_skip rfl rfl ?_) | (first | refine run_read rfl (by decide) (fun _ => nofun) ((rd_gt rfl rfl).eq (show _ = Value.bool true by simp; omega)) ?_ | refine run_read rfl (by decide) (fun _ => nofun) ((rd_gt rfl rfl).eq (show _ = Value.bool false by simp; omega)) ?_)
        first | refine run_read rfl (by decide) (fun _ => nofun) (rd_pick_t rfl rfl) ?_ | refine run_read rfl (by decide) (fun _ => nofun) (rd_pick_f rfl rfl) ?_
        refine run_read rfl (by decide) (fun _ => nofun) (rd_move rfl) ?_
        first | (refine run_skip rfl rfl ?_) | (refine run_read rfl (by decide) (fun _ => nofun) (rd_move rfl) ?_)
        first | (refine run_skip rfl rfl ?_) | (first | refine run_read rfl (by decide) (fun _ => nofun) ((rd_gt rfl rfl).eq (show _ = Value.bool true by simp; omega)) ?_ | refine run_read rfl (by decide) (fun _ => nofun) ((rd_gt rfl rfl).eq (show _ = Value.bool false by simp; omega)) ?_)
        first | (refine run_skip rfl rfl ?_) | (refine run_read rfl (by decide) (fun _ => nofun) (rd_move rfl) ?_)
        first | (refine run_skip rfl rfl ?_) | (refine run_read rfl (by decide) (fun _ => nofun) (rd_move rfl) ?_)
        first | (refine run_skip rfl rfl ?_) | (refine run_read rfl (by decide) (fun _ => nofun) (rd_eq rfl rfl) ?_)
        first | (refine run_skip rfl rfl ?_) | (first | refine run_read rfl (by decide) (fun _ => nofun) (rd_pick_t rfl rfl) ?_ | refine run_read rfl (by decide) (fun _ => nofun) (rd_pick_f rfl rfl) ?_)
        first | refine run_read rfl (by decide) (fun _ => nofun) (rd_pick_t rfl rfl) ?_ | refine run_read rfl (by decide) (fun _ => nofun) (rd_pick_f rfl rfl) ?_
        refine run_nil ?_
        refine St.keep (β' := [(5, _), (6, _), (7, _), (8, _), (9, _), (10, _), (11, _), (12, _), (20, _), (21, _), (24, _), (25, _), (26, _), (27, _), (28, _), (29, _), (30, _)]) ⟨rfl, rfl, rfl, rfl, rfl, rfl, rfl, rfl, rfl, rfl, rfl, rfl, rfl, rfl, rfl, rfl, rfl, trivial⟩ ?_
        refine St.then_n ?_
        exact St.keep (β' := [(5, _), (6, _), (7, _), (8, _), (9, _), (10, _), (11, _), (12, _), (30, _)]) ⟨rfl, rfl, rfl, rfl, rfl, rfl, rfl, rfl, rfl, trivial⟩ (hK _ (by first | exact (decide_eq_true (by omega)).symm | exact (decide_eq_false (by omega)).symm | exact decide_eq_decide.2 (by omega)))
      · refine do_region ?_
        refine run_read rfl (by decide) (fun _ => nofun) (rd_move rfl) ?_
        first | refine run_read rfl (by decide) (fun _ => nofun) ((rd_eq rfl rfl).eq (show _ = Value.bool true by simp; omega)) ?_ | refine run_read rfl (by decide) (fun _ => nofun) ((rd_eq rfl rfl).eq (show _ = Value.bool false by simp; omega)) ?_
        refine run_read rfl (by decide) (fun _ => nofun) (rd_move rfl) ?_
        first | (refine run_skip rfl rfl ?_) | (refine run_read rfl (by decide) (fun _ => nofun) (rd_move rfl) ?_)
        first | (refine run_skip rfl rfl ?_) | (first | refine run_read rfl (by decide) (fun _ => nofun) ((rd_gt rfl rfl).eq (show _ = Value.bool true by simp; omega)) ?_ | refine run_read rfl (by decide) (fun _ => nofun) ((rd_gt rfl rfl).eq (show _ = Value.bool false by simp; omega)) ?_)
        first | refine run_read rfl (by decide) (fun _ => nofun) (rd_pick_t rfl rfl) ?_ | refine run_read rfl (by decide) (fun _ => nofun) (rd_pick_f rfl rfl) ?_
        refine run_read rfl (by decide) (fun _ => nofun) (rd_move rfl) ?_
        first | (refine run_skip rfl rfl ?_) | (refine run_read rfl (by decide) (fun _ => nofun) (rd_move rfl) ?_)
        first | (refine run_skip rfl rfl ?_) | (first | refine run_read rfl (by decide) (fun _ => nofun) ((rd_gt rfl rfl).eq (show _ = Value.bool true by simp; omega)) ?_ | refine run_read rfl (by decide) (fun _ => nofun) ((rd_gt rfl rfl).eq (show _ = Value.bool false by simp; omega)) ?_)
        first | (refine run_skip rfl rfl ?_) | (refine run_read rfl (by decide) (fun _ => nofun) (rd_move rfl) ?_)
        first | (refine run_skip rfl rfl ?_) | (refine run_read rfl (by decide) (fun _ => nofun) (rd_move rfl) ?_)
        first | (refine run_skip rfl rfl ?_) | (refine run_read rfl (by decide) (fun _ => nofun) (rd_eq rfl rfl) ?_)
        first | (refine run_skip rfl rfl ?_) | (first | refine run_read rfl (by decide) (fun _ => nofun) (rd_pick_t rfl rfl) ?_ | refine run_read rfl (by decide) (fun _ => nofun) (rd_pick_f rfl rfl) ?_)
        first | refine run_read rfl (by decide) (fun _ => nofun) (rd_pick_t rfl rfl) ?_ | refine run_read rfl (by decide) (fun _ => nofun) (rd_pick_f rfl rfl) ?_
        refine run_nil ?_
        refine St.keep (β' := [(5, _), (6, _), (7, _), (8, _), (9, _), (10, _), (11, _), (12, _), (20, _), (21, _), (24, _), (25, _), (26, _), (27, _), (28, _), (29, _), (30, _)]) ⟨rfl, rfl, rfl, rfl, rfl, rfl, rfl, rfl, rfl, rfl, rfl, rfl, rfl, rfl, rfl, rfl, rfl, trivial⟩ ?_
        refine St.then_n ?_
        exact St.keep (β' := [(5, _), (6, _), (7, _), (8, _), (9, _), (10, _), (11, _), (12, _), (30, _)]) ⟨rfl, rfl, rfl, rfl, rfl, rfl, rfl, rfl, rfl, trivial⟩ (hK _ (by first | exact (decide_eq_true (by omega)).symm | exact (decide_eq_false (by omega)).symm | exact decide_eq_decide.2 (by omega)))
    rintro b hb
    first | refine do_condp rfl (fun h30 => ?_) (fun h30 => ?_) | refine do_cond rfl (fun h30 => ?_) (fun h30 => ?_)
    · have hf := of_decide_eq_true (hb.symm.trans h30)
      rw [scanF_cons, if_pos hf] at hs
      refine do_seq ?_
      refine do_region ?_
      refine run_read rfl (by decide) (fun _ => nofun) (rd_assign rfl) ?_
      refine run_nil ?_
      refine St.keep (β' := [(5, _), (6, _), (7, _)]) ⟨rfl, rfl, rfl, trivial⟩ ?_
      refine St.then_n ?_
      refine do_exit ?_
      refine St.then_x ?_
      refine St.blk_o rfl ?_
      refine St.then_x ?_
      refine St.then_x ?_
      refine St.blk_s ?_
      refine St.then_n ?_
      refine do_seq ?_
      refine do_region ?_
      refine run_read rfl (by decide) (fun _ => nofun) (rd_move rfl) ?_
      refine run_read rfl (by decide) (fun _ => nofun) (rd_move rfl) ?_
      refine run_read rfl (by decide) (fun _ => nofun) (rd_move rfl) ?_
      refine run_read rfl (by decide) (fun _ => nofun) (rd_assign rfl) ?_
      refine run_read rfl (by decide) (fun _ => nofun) (rd_assign rfl) ?_
      refine run_read rfl (by decide) (fun _ => nofun) (rd_assign rfl) ?_
      refine run_nil ?_
      refine St.keep (β' := [(2, _), (3, _), (4, _)]) ⟨rfl, rfl, rfl, trivial⟩ ?_
      refine St.then_n ?_
      refine do_ret ?_
      refine St.sc_r ?_
      refine do_ret3 Try.results136 (res_tmp rfl) (res_tmp rfl) (res_tmp rfl) ?_
      intro w hw
      exact ⟨(), trivial, by rw [← hs]; rfl, hw⟩
    · have hf := of_decide_eq_false (hb.symm.trans h30)
      rw [scanF_cons, if_neg hf] at hs
      have hq : c.toNat % 128 < 128 := Nat.mod_lt _ (by omega)
      obtain ⟨sh1, sh2⟩ := shl_in (c.toNat % 128) i hq hi9 (by intro h; omega)
      have hacc : acc < 18446744073709551616 := by
        have : 128 ^ i ≤ 128 ^ 9 := Nat.pow_le_pow_right (by omega) hi9
        have h8 : (128 : Nat) ^ 9 = 9223372036854775808 := by decide
        omega
      have hor := or_add acc (c.toNat % 128) i ha
      refine do_skip ?_
      refine St.then_n ?_
      refine do_seq ?_
      refine do_region ?_
      refine run_read rfl (by decide) (fun _ => nofun) (rd_move rfl) ?_
      refine run_read rfl (by decide) (fun _ => nofun) (rd_move rfl) ?_
      refine run_read rfl (by decide) (fun _ => nofun) ((rd_and rfl rfl).eq (u8_and c)) ?_
      refine run_read rfl (by decide) (fun _ => nofun) ((rd_conv Try.underlying5 Try.underlying183 rfl).eq (show _ = Value.int .u64 ((c.toNat % 128 : Nat) : Int) from congrArg _ (IntWalk.u64_in _ (by omega)))) ?_
      refine run_read rfl (by decide) (fun _ => nofun) (rd_move rfl) ?_
      first | refine run_read rfl (by decide) (fun _ => nofun) ((rd_mul rfl rfl).eq (congrArg (Value.int .i64) (IntWalk.i64_in _ (by omega)))) ?_ | refine run_read rfl (by decide) (fun _ => nofun) (rd_mul rfl rfl) ?_
      refine run_read rfl (by decide) (fun _ => nofun) ((rd_shl (by omega) rfl rfl).eq sh1) ?_
      refine run_read rfl (by decide) (fun _ => nofun) ((rd_or rfl rfl).eq ((u64_or acc _ hacc sh2).trans (show _ = Value.int .u64 ((acc + c.toNat % 128 * 128 ^ i : Nat) : Int) by rw [hor]))) ?_
      refine run_read rfl (by decide) (fun _ => nofun) (rd_assign rfl) ?_
      refine run_nil ?_
      refine St.keep (β' := [(5, _), (6, _), (7, _), (8, _), (9, _), (10, _), (11, _), (12, _)]) ⟨rfl, rfl, rfl, rfl, rfl, rfl, rfl, rfl, trivial⟩ ?_
      refine St.then_n ?_
      refine do_seq ?_
      refine do_region ?_
      refine run_read rfl (by decide) (fun _ => nofun) (rd_move rfl) ?_
      refine run_read rfl (by decide) (fun _ => nofun) (rd_lt rfl rfl) ?_
      refine run_nil ?_
      refine St.then_n ?_
      first | refine do_condp rfl (fun h40 => ?_) (fun h40 => ?_) | refine do_cond rfl (fun h40 => ?_) (fun h40 => ?_)
      · rw [if_pos (by omega)] at hs
        refine do_seq ?_
        refine do_region ?_
        refine run_read rfl (by decide) (fun _ => nofun) (rd_move rfl) ?_
        first | refine run_read rfl (by decide) (fun _ => nofun) ((rd_add rfl rfl).eq (congrArg (Value.int .i64) (IntWalk.i64_in _ (by omega)))) ?_ | refine run_read rfl (by decide) (fun _ => nofun) (rd_add rfl rfl) ?_
        refine run_read rfl (by decide) (fun _ => nofun) (rd_assign rfl) ?_
        refine run_read rfl (by decide) (fun _ => nofun) (rd_assign rfl) ?_
        refine run_nil ?_
        refine St.keep (β' := [(5, _), (6, _), (7, _)]) ⟨rfl, rfl, rfl, trivial⟩ ?_
        refine St.then_n ?_
        refine do_exit ?_
        refine St.blk_o rfl ?_
        refine St.then_x ?_
        refine St.then_x ?_
        refine St.blk_s ?_
        refine St.then_n ?_
        refine do_seq ?_
        refine do_region ?_
        refine run_read rfl (by decide) (fun _ => nofun) (rd_move rfl) ?_
        refine run_read rfl (by decide) (fun _ => nofun) (rd_move rfl) ?_
        refine run_read rfl (by decide) (fun _ => nofun) (rd_move rfl) ?_
        refine run_read rfl (by decide) (fun _ => nofun) (rd_assign rfl) ?_
        refine run_read rfl (by decide) (fun _ => nofun) (rd_assign rfl) ?_
        refine run_read rfl (by decide) (fun _ => nofun) (rd_assign rfl) ?_
        refine run_nil ?_
        refine St.keep (β' := [(2, _), (3, _), (4, _)]) ⟨rfl, rfl, rfl, trivial⟩ ?_
        refine St.then_n ?_
        refine do_ret ?_
        refine St.sc_r ?_
        refine do_ret3 Try.results136 (res_tmp rfl) (res_tmp rfl) (res_tmp rfl) ?_
        intro w hw
        exact ⟨(), trivial, by rw [← hs]; rfl, hw⟩
      · rw [if_neg (by omega)] at hs
        refine do_skip ?_
        refine St.blk_n ?_
        refine St.then_n ?_
        refine do_region ?_
        first | refine run_read rfl (by decide) (fun _ => nofun) ((rd_add rfl rfl).eq (congrArg (Value.int .i64) (IntWalk.i64_in _ (by omega)))) ?_ | refine run_read rfl (by decide) (fun _ => nofun) (rd_add rfl rfl) ?_
        refine run_read rfl (by decide) (fun _ => nofun) (rd_move rfl) ?_
        refine run_nil ?_
        refine St.keep (β' := [(5, _), (6, _), (7, _), (10, _), (11, _), (12, _)]) ⟨rfl, rfl, rfl, rfl, rfl, rfl, trivial⟩ ?_
        refine St.then_n ?_
        refine loop_back (i + 1, acc + c.toNat % 128 * 128 ^ i) ⟨by dsimp only; omega, by dsimp only; omega, fun _ => by dsimp only; omega, ?_, hs⟩ (by dsimp only; omega) ⟨rfl, rfl, rfl, rfl, rfl, rfl, trivial⟩ (by repeat (first | exact Pick.nil | apply Pick.cons (by repeat (first | with_reducible exact Sel.head | apply Sel.tail))))
        dsimp only
        have : c.toNat % 128 * 128 ^ i ≤ 127 * 128 ^ i := Nat.mul_le_mul_right _ (by omega)
        rw [Nat.pow_succ]; omega
  · refine do_exit ?_
    refine St.then_x ?_
    refine St.then_x ?_
    refine St.blk_s ?_
    refine St.then_n ?_
    refine do_seq ?_
    refine do_region ?_
    refine run_read rfl (by decide) (fun _ => nofun) (rd_move rfl) ?_
    refine run_read rfl (by decide) (fun _ => nofun) (rd_move rfl) ?_
    refine run_read rfl (by decide) (fun _ => nofun) (rd_move rfl) ?_
    refine run_read rfl (by decide) (fun _ => nofun) (rd_assign rfl) ?_
    refine run_read rfl (by decide) (fun _ => nofun) (rd_assign rfl) ?_
    refine run_read rfl (by decide) (fun _ => nofun) (rd_assign rfl) ?_
    refine run_nil ?_
    refine St.keep (β' := [(2, _), (3, _), (4, _)]) ⟨rfl, rfl, rfl, trivial⟩ ?_
    refine St.then_n ?_
    refine do_ret ?_
    refine St.sc_r ?_
    refine do_ret3 Try.results136 (res_tmp rfl) (res_tmp rfl) (res_tmp rfl) ?_
    intro w hw
    obtain rfl : i = l.length := by omega
    rw [List.drop_length] at hs
    exact ⟨(), trivial, by rw [← hs]; rfl, hw⟩
section
variable {r : Nat} {B : List UInt8} {s : RS}
theorem rU_err (h : s.why ≠ 0) : rU B s = (0, s) := if_pos h
theorem rU_bad {n z : Nat} {y : Int} (h : s.why = 0) (he : scanF 0 0 (B.drop s.at_) = (n, z, y)) (hy : y ≠ 0) : rU B s = (0, ⟨s.at_, y⟩) := by
  unfold rU
  rw [if_neg (by simp [h]), he]
  exact if_pos hy
theorem rU_good {n z : Nat} {y : Int} (h : s.why = 0) (he : scanF 0 0 (B.drop s.at_) = (n, z, y)) (hy : y = 0) : rU B s = (n, ⟨s.at_ + z, 0⟩) := by
  unfold rU
  rw [if_neg (by simp [h]), he]
  exact if_neg (by simp [hy])
theorem rdUint_spec (F : HP) (hs : s.at_ ≤ B.length) (hl : B.length ≤ 140737488355328) :
    Spec Try.prog 119 [.pointer (some ⟨r, 0, none⟩)] [rdO 189 r B s] F (fun _ : Unit => True) (fun _ => .int .u64 (rU B s).1) (fun _ => [rdO 189 r B (rU B s).2]) := by
  intro ω w hh
  refine enter Try.func119 rfl Try.ntmps119 rfl hh ?_
  simp only [List.cons_append, List.nil_append, argsB]
  by_cases hy : s.why = 0
  · obtain ⟨⟨n, z, y⟩, he⟩ : ∃ q, scanF 0 0 (B.drop s.at_) = q := ⟨_, rfl⟩
    have hz := scanF_size (B.drop s.at_) 0 0
    rw [he, List.length_drop] at hz
    dsimp only at hz
    refine do_seq ?_
    refine do_region ?_
    refine run_read rfl (by decide) (fun _ => nofun) (rd_assign rfl) ?_
    refine run_nil ?_
    refine St.then_n ?_
    refine do_seq ?_
    refine do_seq ?_
    refine do_region ?_
    refine run_read rfl (by decide) (fun _ => nofun) (rd_move rfl) ?_
    refine run_spec rfl (by decide) (by kernel_rfl) rfl (by repeat (first | exact Pick.nil | apply Pick.cons (by repeat (first | with_reducible exact Sel.head | apply Sel.tail)))) (ok_spec _) ?_
    rintro ⟨⟩ -
    rw [decide_eq_true hy]
    try simp only [List.cons_append, List.nil_append]
    refine run_read rfl (by decide) (fun _ => nofun) (rd_not rfl) ?_
    refine run_nil ?_
    refine St.then_n ?_
    refine do_cond_f rfl ?_
    refine do_skip ?_
    refine St.then_n ?_
    refine do_seq ?_
    refine do_region ?_
    refine St.sel (P := rdO 189 r B s) (by repeat (first | with_reducible exact Sel.head | apply Sel.tail)) (St.rd_open fun A cap => ?_)
    refine run_read rfl (by decide) (fun _ => nofun) (rd_move rfl) ?_
    refine run_spec rfl (by decide) (by kernel_rfl) rfl (by repeat (first | exact Pick.nil | apply Pick.cons (by repeat (first | with_reducible exact Sel.head | apply Sel.tail)))) (left_spec (s := s) _ A cap hs) ?_
    rintro ⟨⟩ -
    try simp only [List.cons_append, List.nil_append]
    refine run_spec rfl (by decide) (by kernel_rfl) rfl (by repeat (first | exact Pick.nil | apply Pick.cons (by repeat (first | with_reducible exact Sel.head | apply Sel.tail)))) (scan_spec _ _ (B.drop s.at_) (Vw.sep (vw_left hs) (by repeat (first | with_reducible exact Sel.head | apply Sel.tail))) (by simp; omega)) ?_
    rintro ⟨⟩ -
    rw [he]
    dsimp only
    try simp only [List.cons_append, List.nil_append]
    refine run_read rfl (by decide) (fun _ => nofun) (rd_move rfl) ?_
    refine run_read rfl (by decide) (fun _ => nofun) (rd_extract rfl rfl) ?_
    refine run_read rfl (by decide) (fun _ => nofun) (rd_extract rfl rfl) ?_
    refine run_read rfl (by decide) (fun _ => nofun) (rd_extract rfl rfl) ?_
    refine run_read rfl (by decide) (fun _ => nofun) (rd_assign rfl) ?_
    refine run_read rfl (by decide) (fun _ => nofun) (rd_assign rfl) ?_
    refine run_read rfl (by decide) (fun _ => nofun) (rd_assign rfl) ?_
    refine run_nil ?_
    refine St.keep (β' := [(0, _), (3, _), (4, _), (5, _)]) ⟨rfl, rfl, rfl, rfl, trivial⟩ ?_
    refine St.then_n ?_
    refine do_seq ?_
    refine do_seq ?_
    refine do_region ?_
    refine run_read rfl (by decide) (fun _ => nofun) (rd_move rfl) ?_
    refine run_read rfl (by decide) (fun _ => nofun) (rd_move rfl) ?_
    refine run_read rfl (by decide) (fun _ => nofun) (rd_nilCheck rfl) ?_
    first | refine run_read rfl (by decide) (fun _ => nofun) (rd_fieldAddr0 rfl fld189_2) ?_ | refine run_read rfl (by decide) (fun _ => nofun) (rd_fieldAddr rfl fld189_2) ?_
    refine run_store rfl rfl rfl (by repeat (first | with_reducible exact Sel.head | apply Sel.tail)) row25 rfl rfl (by simp only [List.set_cons_succ, List.set_cons_zero]; exact rfl) ?_
    refine run_nil ?_
    refine St.keep (β' := [(0, _), (3, _), (4, _), (5, _)]) ⟨rfl, rfl, rfl, rfl, trivial⟩ ?_
    refine St.then_n ?_
    refine do_seq ?_
    refine do_region ?_
    refine run_read rfl (by decide) (fun _ => nofun) (rd_move rfl) ?_
    refine run_read rfl (by decide) (fun _ => nofun) (rd_ne rfl rfl) ?_
    refine run_nil ?_
    refine St.then_n ?_
    first | refine do_condp rfl (fun h21 => ?_) (fun h21 => ?_) | refine do_cond rfl (fun h21 => ?_) (fun h21 => ?_)
    · refine do_seq ?_
      refine do_region ?_
      refine run_read rfl (by decide) (fun _ => nofun) (rd_assign rfl) ?_
      refine run_nil ?_
      refine St.keep (β' := [(2, _)]) ⟨rfl, trivial⟩ ?_
      refine St.then_n ?_
      refine do_ret ?_
      refine St.then_r ?_
      refine do_ret1 Try.results119 (res_tmp rfl) ?_
      intro w hw
      rw [rU_bad hy he h21]
      exact ⟨(), trivial, rfl, Holds.rd_shut (A := A) (cap := cap) ⟨s.at_, y⟩ (by repeat (first | exact Pick.nil | apply Pick.cons (by repeat (first | with_reducible exact Sel.head | apply Sel.tail)))) hw⟩
    · refine do_skip ?_
      refine St.then_n ?_
      refine do_seq ?_
      refine do_region ?_
      refine run_read rfl (by decide) (fun _ => nofun) (rd_move rfl) ?_
      refine run_read rfl (by decide) (fun _ => nofun) (rd_nilCheck rfl) ?_
      first | refine run_read rfl (by decide) (fun _ => nofun) (rd_fieldAddr0 rfl fld189_1) ?_ | refine run_read rfl (by decide) (fun _ => nofun) (rd_fieldAddr rfl fld189_1) ?_
      refine run_read rfl (by decide) (fun _ => nofun) (rd_load rfl row3 (cells_pts1 (by repeat (first | with_reducible exact Sel.head | apply Sel.tail)) rfl)) ?_
      refine run_read rfl (by decide) (fun _ => nofun) (rd_move rfl) ?_
      first | refine run_read rfl (by decide) (fun _ => nofun) ((rd_add rfl rfl).eq (congrArg (Value.int .i64) (IntWalk.i64_in _ (by omega)))) ?_ | refine run_read rfl (by decide) (fun _ => nofun) (rd_add rfl rfl) ?_
      refine run_read rfl (by decide) (fun _ => nofun) (rd_nilCheck rfl) ?_
      first | refine run_read rfl (by decide) (fun _ => nofun) (rd_fieldAddr0 rfl fld189_1) ?_ | refine run_read rfl (by decide) (fun _ => nofun) (rd_fieldAddr rfl fld189_1) ?_
      refine run_store rfl rfl rfl (by repeat (first | with_reducible exact Sel.head | apply Sel.tail)) row3 rfl rfl (by simp only [List.set_cons_succ, List.set_cons_zero]; exact rfl) ?_
      refine run_nil ?_
      refine St.keep (β' := [(3, _)]) ⟨rfl, trivial⟩ ?_
      refine St.then_n ?_
      refine do_seq ?_
      refine do_region ?_
      refine run_read rfl (by decide) (fun _ => nofun) (rd_move rfl) ?_
      refine run_read rfl (by decide) (fun _ => nofun) (rd_assign rfl) ?_
      refine run_nil ?_
      refine St.then_n ?_
      refine do_ret ?_
      refine do_ret1 Try.results119 (res_tmp rfl) ?_
      intro w hw
      have hy0 : y = 0 := by omega
      rw [rU_good hy he hy0]
      subst hy0
      exact ⟨(), trivial, rfl, Holds.rd_shut (A := A) (cap := cap) ⟨s.at_ + z, 0⟩ (.cons .head (.cons (by repeat (first | with_reducible exact Sel.head | apply Sel.tail)) .nil)) hw⟩
  · rw [rU_err hy]
    refine do_seq ?_
    refine do_region ?_
    refine run_read rfl (by decide) (fun _ => nofun) (rd_assign rfl) ?_
    refine run_nil ?_
    refine St.then_n ?_
    refine do_seq ?_
    refine do_seq ?_
    refine do_region ?_
    refine run_read rfl (by decide) (fun _ => nofun) (rd_move rfl) ?_
    refine run_spec rfl (by decide) (by kernel_rfl) rfl (by repeat (first | exact Pick.nil | apply Pick.cons (by repeat (first | with_reducible exact Sel.head | apply Sel.tail)))) (ok_spec _) ?_
    rintro ⟨⟩ -
    rw [decide_eq_false hy]
    try simp only [List.cons_append, List.nil_append]
    refine run_read rfl (by decide) (fun _ => nofun) (rd_not rfl) ?_
    refine run_nil ?_
    refine St.then_n ?_
    refine do_cond_t rfl ?_
    refine do_seq ?_
    refine do_region ?_
    refine run_read rfl (by decide) (fun _ => nofun) (rd_assign rfl) ?_
    refine run_nil ?_
    refine St.keep (β' := [(2, _)]) ⟨rfl, trivial⟩ ?_
    refine St.then_n ?_
    refine do_ret ?_
    refine St.then_r ?_
    refine do_ret1 Try.results119 (res_tmp rfl) ?_
    intro w hw
    exact ⟨(), trivial, rfl, hw⟩
end
end Go.Proofs.Ytglcmlicfmmlpaa
