/-
  Reading bytes: the program's counts, bytes, texts, truths, the end.
-/
import Derived.Test.YtglcmlicfmmlpaaC7
namespace Go.Proofs.Ytglcmlicfmmlpaa
open Go.RowKit
set_option linter.unusedSimpArgs false
set_option linter.unusedVariables false

theorem vw_sub0 {F : HP} {A : Option Addr} {m c n : Nat} {bs : List UInt8} (h : VwB F (.slice A m c) bs) (hn : n ≤ bs.length) : VwB F (.slice (subA A c (Int.toNat 0) 1) ((n : Int).toNat - Int.toNat 0) (c - Int.toNat 0)) (bs.take n) := fun p hp => by
  have hm : m = bs.length := by
    obtain ⟨A', c', e, _⟩ := h p hp
    cases e; rfl
  subst hm
  have := (Vw.sub (F := F) (k := 1) h (i := 0) (j := n) (by decide) (Nat.zero_le _) hn) p hp
  rw [List.length_take, Nat.min_eq_left hn, List.map_take]
  simpa using this
section
variable {r : Nat} {B : List UInt8} {s : RS}
theorem rN_err {most : Nat} (h : s.why ≠ 0) : rN most B s = (0, s) := if_pos h
theorem rN_bad {most : Nat} (h : s.why = 0) (h1 : (rU B s).2.why ≠ 0) : rN most B s = (0, ⟨s.at_, (rU B s).2.why⟩) := by
  unfold rN; rw [if_neg (by simp [h]), if_pos h1]
theorem rN_big {most : Nat} (h : s.why = 0) (h1 : (rU B s).2.why = 0) (h2 : most < (rU B s).1) : rN most B s = (0, ⟨s.at_, 3⟩) := by
  unfold rN; rw [if_neg (by simp [h]), if_neg (by simp [h1]), if_pos h2]
theorem rN_short {most : Nat} (h : s.why = 0) (h1 : (rU B s).2.why = 0) (h2 : ¬ most < (rU B s).1) (h3 : B.length - (rU B s).2.at_ < (rU B s).1) : rN most B s = (0, ⟨s.at_, 10⟩) := by
  unfold rN; rw [if_neg (by simp [h]), if_neg (by simp [h1]), if_neg h2, if_pos h3]
theorem rN_good {most : Nat} (h : s.why = 0) (h1 : (rU B s).2.why = 0) (h2 : ¬ most < (rU B s).1) (h3 : ¬ B.length - (rU B s).2.at_ < (rU B s).1) : rN most B s = rU B s := by
  unfold rN; rw [if_neg (by simp [h]), if_neg (by simp [h1]), if_neg h2, if_neg h3]
theorem sized_spec (F : HP) (most : Nat) (hm : most ≤ 9223372036854775807) (hs : s.at_ ≤ B.length) (hl : B.length ≤ 140737488355328) :
    Spec Try.prog 120 [.pointer (some ⟨r, 0, none⟩), .int .i64 most] [rdO 189 r B s] F (fun _ : Unit => True) (fun _ => .int .i64 (rN most B s).1) (fun _ => [rdO 189 r B (rN most B s).2]) := by
  intro ω w hh
  refine enter Try.func120 rfl Try.ntmps120 rfl hh ?_
  simp only [List.cons_append, List.nil_append, argsB]
  by_cases hy : s.why = 0
  · have hlt := rU_lt B s
    have hok := rU_ok hs
    have kb := @rN_bad B s most hy
    have kg := @rN_big B s most hy
    have ks := @rN_short B s most hy
    have ko := @rN_good B s most hy
    obtain ⟨⟨n, s1⟩, hr⟩ : ∃ q, rU B s = q := ⟨_, rfl⟩
    rw [hr] at hlt hok kb kg ks ko
    dsimp only at hlt hok kb kg ks ko
    refine do_seq ?_
    refine do_region ?_
    refine run_read rfl (by decide) (fun _ => nofun) (rd_assign rfl) ?_
    refine run_nil ?_
    refine St.then_n ?_
    refine do_seq ?_
    refine do_seq ?_
    refine do_region ?_
    refine run_read rfl (by decide) (fun _ => nofun) (rd_move rfl) ?_
    refine run_spec rfl (by decide) (by kernel_rfl) rfl (by repeat (first | exact Pick.nil | apply Pick.cons (by repeat (first | with_reducible exact Sel.head | apply Sel.tail)))) (ok_spec _) ?_
    rintro ⟨⟩ -
    rw [decide_eq_true hy]
    try simp only [List.cons_append, List.nil_append]
    refine run_read rfl (by decide) (fun _ => nofun) (rd_not rfl) ?_
    refine run_nil ?_
    refine St.then_n ?_
    refine do_cond_f rfl ?_
    refine do_skip ?_
    refine St.then_n ?_
    refine do_seq ?_
    refine do_region ?_
    refine St.sel (P := rdO 189 r B s) (by repeat (first | with_reducible exact Sel.head | apply Sel.tail)) (St.rd_open fun A cap => ?_)
    refine run_read rfl (by decide) (fun _ => nofun) (rd_move rfl) ?_
    refine run_read rfl (by decide) (fun _ => nofun) (rd_nilCheck rfl) ?_
    first | refine run_read rfl (by decide) (fun _ => nofun) (rd_fieldAddr0 rfl fld189_1) ?_ | refine run_read rfl (by decide) (fun _ => nofun) (rd_fieldAddr rfl fld189_1) ?_
    refine run_read rfl (by decide) (fun _ => nofun) (rd_load rfl row3 (cells_pts1 (by repeat (first | with_reducible exact Sel.head | apply Sel.tail)) rfl)) ?_
    refine run_read rfl (by decide) (fun _ => nofun) (rd_assign rfl) ?_
    refine run_nil ?_
    refine St.keep (β' := [(0, _), (1, _), (5, _)]) ⟨rfl, rfl, rfl, trivial⟩ ?_
    refine St.then_n ?_
    refine do_seq ?_
    refine do_region ?_
    refine St.rd_shut (A := A) (cap := cap) s (by repeat (first | exact Pick.nil | apply Pick.cons (by repeat (first | with_reducible exact Sel.head | apply Sel.tail)))) ?_
    refine run_read rfl (by decide) (fun _ => nofun) (rd_move rfl) ?_
    refine run_spec rfl (by decide) (by kernel_rfl) rfl (by repeat (first | exact Pick.nil | apply Pick.cons (by repeat (first | with_reducible exact Sel.head | apply Sel.tail)))) (rdUint_spec _ hs hl) ?_
    rintro ⟨⟩ -
    rw [hr]
    dsimp only
    try simp only [List.cons_append, List.nil_append]
    refine run_read rfl (by decide) (fun _ => nofun) (rd_assign rfl) ?_
    refine run_nil ?_
    refine St.then_n ?_
    refine do_seq ?_
    refine do_block ?_
    refine do_seq ?_
    refine do_region ?_
    refine St.sel (P := rdO 189 r B s1) (by repeat (first | with_reducible exact Sel.head | apply Sel.tail)) (St.rd_open fun A cap => ?_)
    refine run_read rfl (by decide) (fun _ => nofun) (rd_move rfl) ?_
    refine run_read rfl (by decide) (fun _ => nofun) (rd_nilCheck rfl) ?_
    first | refine run_read rfl (by decide) (fun _ => nofun) (rd_fieldAddr0 rfl fld189_2) ?_ | refine run_read rfl (by decide) (fun _ => nofun) (rd_fieldAddr rfl fld189_2) ?_
    refine run_read rfl (by decide) (fun _ => nofun) (rd_load rfl row25 (cells_pts1 (by repeat (first | with_reducible exact Sel.head | apply Sel.tail)) rfl)) ?_
    refine run_read rfl (by decide) (fun _ => nofun) (rd_ne rfl rfl) ?_
    refine run_read rfl (by decide) (fun _ => nofun) (rd_assign rfl) ?_
    refine run_nil ?_
    refine St.keep (β' := [(0, _), (1, _), (5, _), (6, _), (18, _)]) ⟨rfl, rfl, rfl, rfl, rfl, trivial⟩ ?_
    refine St.then_n ?_
    first | refine do_condp rfl (fun h18 => ?_) (fun h18 => ?_) | refine do_cond rfl (fun h18 => ?_) (fun h18 => ?_)
    · refine do_skip ?_
      refine St.blk_n ?_
      refine St.then_n ?_
      refine do_seq ?_
      refine do_region ?_
      refine run_read rfl (by decide) (fun _ => nofun) (rd_move rfl) ?_
      refine run_read rfl (by decide) (fun _ => nofun) (rd_move rfl) ?_
      refine run_read rfl (by decide) (fun _ => nofun) (rd_nilCheck rfl) ?_
      first | refine run_read rfl (by decide) (fun _ => nofun) (rd_fieldAddr0 rfl fld189_1) ?_ | refine run_read rfl (by decide) (fun _ => nofun) (rd_fieldAddr rfl fld189_1) ?_
      refine run_store rfl rfl rfl (by repeat (first | with_reducible exact Sel.head | apply Sel.tail)) row3 rfl rfl (by simp only [List.set_cons_succ, List.set_cons_zero]; exact rfl) ?_
      refine run_nil ?_
      refine St.keep (β' := []) trivial ?_
      refine St.then_n ?_
      refine do_seq ?_
      refine do_region ?_
      refine run_read rfl (by decide) (fun _ => nofun) (rd_assign rfl) ?_
      refine run_nil ?_
      refine St.then_n ?_
      refine do_ret ?_
      refine do_ret1 Try.results120 (res_tmp rfl) ?_
      intro w hw
      rw [kb h18]
      exact ⟨(), trivial, rfl, Holds.rd_shut (A := A) (cap := cap) ⟨s.at_, s1.why⟩ (by repeat (first | exact Pick.nil | apply Pick.cons (by repeat (first | with_reducible exact Sel.head | apply Sel.tail)))) hw⟩
    · refine do_seq ?_
      refine do_region ?_
      refine run_read rfl (by decide) (fun _ => nofun) (rd_move rfl) ?_
      refine run_read rfl (by decide) (fun _ => nofun) ((rd_lt rfl rfl).eq (show _ = Value.bool false by simp)) ?_
      refine run_read rfl (by decide) (fun _ => nofun) (rd_move rfl) ?_
      first | (refine run_skip rfl rfl ?_) | (refine run_read rfl (by decide) (fun _ => nofun) (rd_move rfl) ?_)
      first | (refine run_skip rfl rfl ?_) | (refine run_read rfl (by decide) (fun _ => nofun) (rd_move rfl) ?_)
      first | (refine run_skip rfl rfl ?_) | (refine run_read rfl (by decide) (fun _ => nofun) ((rd_conv Try.underlying3 Try.underlying183 rfl).eq (show _ = Value.int .u64 (most : Int) from congrArg _ (IntWalk.u64_in _ (by omega)))) ?_)
      first | (refine run_skip rfl rfl ?_) | (refine run_read rfl (by decide) (fun _ => nofun) (rd_gt rfl rfl) ?_)
      first | refine run_read rfl (by decide) (fun _ => nofun) (rd_pick_t rfl rfl) ?_ | refine run_read rfl (by decide) (fun _ => nofun) (rd_pick_f rfl rfl) ?_
      refine run_read rfl (by decide) (fun _ => nofun) (rd_assign rfl) ?_
      refine run_nil ?_
      refine St.keep (β' := [(0, _), (5, _), (6, _), (24, _)]) ⟨rfl, rfl, rfl, rfl, trivial⟩ ?_
      refine St.then_n ?_
      first | refine do_condp rfl (fun h24 => ?_) (fun h24 => ?_) | refine do_cond rfl (fun h24 => ?_) (fun h24 => ?_)
      · refine do_region ?_
        refine run_read rfl (by decide) (fun _ => nofun) (rd_move rfl) ?_
        refine run_read rfl (by decide) (fun _ => nofun) (rd_nilCheck rfl) ?_
        first | refine run_read rfl (by decide) (fun _ => nofun) (rd_fieldAddr0 rfl fld189_2) ?_ | refine run_read rfl (by decide) (fun _ => nofun) (rd_fieldAddr rfl fld189_2) ?_
        refine run_store rfl rfl rfl (by repeat (first | with_reducible exact Sel.head | apply Sel.tail)) row25 rfl rfl (by simp only [List.set_cons_succ, List.set_cons_zero]; exact rfl) ?_
        refine run_nil ?_
        refine St.keep (β' := [(0, _), (5, _)]) ⟨rfl, rfl, trivial⟩ ?_
        refine St.blk_n ?_
        refine St.then_n ?_
        refine do_seq ?_
        refine do_region ?_
        refine run_read rfl (by decide) (fun _ => nofun) (rd_move rfl) ?_
        refine run_read rfl (by decide) (fun _ => nofun) (rd_move rfl) ?_
        refine run_read rfl (by decide) (fun _ => nofun) (rd_nilCheck rfl) ?_
        first | refine run_read rfl (by decide) (fun _ => nofun) (rd_fieldAddr0 rfl fld189_1) ?_ | refine run_read rfl (by decide) (fun _ => nofun) (rd_fieldAddr rfl fld189_1) ?_
        refine run_store rfl rfl rfl (by repeat (first | with_reducible exact Sel.head | apply Sel.tail)) row3 rfl rfl (by simp only [List.set_cons_succ, List.set_cons_zero]; exact rfl) ?_
        refine run_nil ?_
        refine St.keep (β' := []) trivial ?_
        refine St.then_n ?_
        refine do_seq ?_
        refine do_region ?_
        refine run_read rfl (by decide) (fun _ => nofun) (rd_assign rfl) ?_
        refine run_nil ?_
        refine St.then_n ?_
        refine do_ret ?_
        refine do_ret1 Try.results120 (res_tmp rfl) ?_
        intro w hw
        rw [kg (by omega) (by omega)]
        exact ⟨(), trivial, rfl, Holds.rd_shut (A := A) (cap := cap) ⟨s.at_, 3⟩ (by repeat (first | exact Pick.nil | apply Pick.cons (by repeat (first | with_reducible exact Sel.head | apply Sel.tail)))) hw⟩
      · refine do_seq ?_
        refine do_region ?_
        refine run_read rfl (by decide) (fun _ => nofun) (rd_move rfl) ?_
        refine run_read rfl (by decide) (fun _ => nofun) (rd_move rfl) ?_
        refine run_spec rfl (by decide) (by kernel_rfl) rfl (by repeat (first | exact Pick.nil | apply Pick.cons (by repeat (first | with_reducible exact Sel.head | apply Sel.tail)))) (left_spec (s := s1) _ A cap hok) ?_
        rintro ⟨⟩ -
        try simp only [List.cons_append, List.nil_append]
        refine run_read rfl (by decide) (fun _ => nofun) (rd_len Try.underlying26 rfl) ?_
        refine run_read rfl (by decide) (fun _ => nofun) ((rd_conv Try.underlying3 Try.underlying183 rfl).eq (show _ = Value.int .u64 ((B.length - s1.at_ : Nat) : Int) from congrArg _ (IntWalk.u64_in _ (by omega)))) ?_
        refine run_read rfl (by decide) (fun _ => nofun) (rd_gt rfl rfl) ?_
        refine run_read rfl (by decide) (fun _ => nofun) (rd_assign rfl) ?_
        refine run_nil ?_
        refine St.keep (β' := [(0, _), (5, _), (6, _), (36, _)]) ⟨rfl, rfl, rfl, rfl, trivial⟩ ?_
        refine St.then_n ?_
        first | refine do_condp rfl (fun h36 => ?_) (fun h36 => ?_) | refine do_cond rfl (fun h36 => ?_) (fun h36 => ?_)
        · refine do_region ?_
          refine run_read rfl (by decide) (fun _ => nofun) (rd_move rfl) ?_
          refine run_read rfl (by decide) (fun _ => nofun) (rd_nilCheck rfl) ?_
          first | refine run_read rfl (by decide) (fun _ => nofun) (rd_fieldAddr0 rfl fld189_2) ?_ | refine run_read rfl (by decide) (fun _ => nofun) (rd_fieldAddr rfl fld189_2) ?_
          refine run_store rfl rfl rfl (by repeat (first | with_reducible exact Sel.head | apply Sel.tail)) row25 rfl rfl (by simp only [List.set_cons_succ, List.set_cons_zero]; exact rfl) ?_
          refine run_nil ?_
          refine St.keep (β' := [(0, _), (5, _)]) ⟨rfl, rfl, trivial⟩ ?_
          refine St.blk_n ?_
          refine St.then_n ?_
          refine do_seq ?_
          refine do_region ?_
          refine run_read rfl (by decide) (fun _ => nofun) (rd_move rfl) ?_
          refine run_read rfl (by decide) (fun _ => nofun) (rd_move rfl) ?_
          refine run_read rfl (by decide) (fun _ => nofun) (rd_nilCheck rfl) ?_
          first | refine run_read rfl (by decide) (fun _ => nofun) (rd_fieldAddr0 rfl fld189_1) ?_ | refine run_read rfl (by decide) (fun _ => nofun) (rd_fieldAddr rfl fld189_1) ?_
          refine run_store rfl rfl rfl (by repeat (first | with_reducible exact Sel.head | apply Sel.tail)) row3 rfl rfl (by simp only [List.set_cons_succ, List.set_cons_zero]; exact rfl) ?_
          refine run_nil ?_
          refine St.keep (β' := []) trivial ?_
          refine St.then_n ?_
          refine do_seq ?_
          refine do_region ?_
          refine run_read rfl (by decide) (fun _ => nofun) (rd_assign rfl) ?_
          refine run_nil ?_
          refine St.then_n ?_
          refine do_ret ?_
          refine do_ret1 Try.results120 (res_tmp rfl) ?_
          intro w hw
          rw [ks (by omega) (by omega) (by omega)]
          exact ⟨(), trivial, rfl, Holds.rd_shut (A := A) (cap := cap) ⟨s.at_, 10⟩ (by repeat (first | exact Pick.nil | apply Pick.cons (by repeat (first | with_reducible exact Sel.head | apply Sel.tail)))) hw⟩
        · refine do_seq ?_
          refine do_region ?_
          refine run_read rfl (by decide) (fun _ => nofun) (rd_move rfl) ?_
          refine run_read rfl (by decide) (fun _ => nofun) ((rd_conv Try.underlying183 Try.underlying3 rfl).eq (show _ = Value.int .i64 (n : Int) from congrArg _ (IntWalk.i64_in _ (by omega)))) ?_
          refine run_read rfl (by decide) (fun _ => nofun) (rd_assign rfl) ?_
          refine run_nil ?_
          refine St.keep (β' := [(4, _)]) ⟨rfl, trivial⟩ ?_
          refine St.then_n ?_
          refine do_ret ?_
          refine St.blk_r ?_
          refine St.then_r ?_
          refine do_ret1 Try.results120 (res_tmp rfl) ?_
          intro w hw
          rw [ko (by omega) (by omega) (by omega)]
          exact ⟨(), trivial, rfl, Holds.rd_shut (A := A) (cap := cap) s1 (by repeat (first | exact Pick.nil | apply Pick.cons (by repeat (first | with_reducible exact Sel.head | apply Sel.tail)))) hw⟩
  · rw [rN_err hy]
    refine do_seq ?_
    refine do_region ?_
    refine run_read rfl (by decide) (fun _ => nofun) (rd_assign rfl) ?_
    refine run_nil ?_
    refine St.then_n ?_
    refine do_seq ?_
    refine do_seq ?_
    refine do_region ?_
    refine run_read rfl (by decide) (fun _ => nofun) (rd_move rfl) ?_
    refine run_spec rfl (by decide) (by kernel_rfl) rfl (by repeat (first | exact Pick.nil | apply Pick.cons (by repeat (first | with_reducible exact Sel.head | apply Sel.tail)))) (ok_spec _) ?_
    rintro ⟨⟩ -
    rw [decide_eq_false hy]
    try simp only [List.cons_append, List.nil_append]
    refine run_read rfl (by decide) (fun _ => nofun) (rd_not rfl) ?_
    refine run_nil ?_
    refine St.then_n ?_
    refine do_cond_t rfl ?_
    refine do_seq ?_
    refine do_region ?_
    refine run_read rfl (by decide) (fun _ => nofun) (rd_assign rfl) ?_
    refine run_nil ?_
    refine St.keep (β' := [(4, _)]) ⟨rfl, trivial⟩ ?_
    refine St.then_n ?_
    refine do_ret ?_
    refine St.then_r ?_
    refine do_ret1 Try.results120 (res_tmp rfl) ?_
    intro w hw
    exact ⟨(), trivial, rfl, hw⟩
theorem rN_ok {most : Nat} (hs : s.at_ ≤ B.length) : (rN most B s).2.at_ ≤ B.length ∧ ((rN most B s).2.why = 0 → (rN most B s).2.at_ + (rN most B s).1 ≤ B.length) := by
  by_cases hy : s.why = 0
  · by_cases h1 : (rU B s).2.why = 0
    · by_cases h2 : most < (rU B s).1
      · rw [rN_big hy h1 h2]; exact ⟨hs, fun h => by cases h⟩
      · by_cases h3 : B.length - (rU B s).2.at_ < (rU B s).1
        · rw [rN_short hy h1 h2 h3]; exact ⟨hs, fun h => by cases h⟩
        · rw [rN_good hy h1 h2 h3]
          have := rU_ok hs
          exact ⟨this, fun _ => by omega⟩
    · rw [rN_bad hy h1]; exact ⟨hs, fun h => absurd h h1⟩
  · rw [rN_err hy]; exact ⟨hs, fun h => absurd h hy⟩
theorem rB_err (h : (rN 65536 B s).2.why ≠ 0) : rB B s = ([], (rN 65536 B s).2) := if_pos h
theorem rB_good (h : (rN 65536 B s).2.why = 0) : rB B s = ((B.drop (rN 65536 B s).2.at_).take (rN 65536 B s).1, ⟨(rN 65536 B s).2.at_ + (rN 65536 B s).1, 0⟩) := if_neg (by simp [h])
theorem count_spec' (F : HP) (most : Nat) (hm : most ≤ 9223372036854775807) (hs : s.at_ ≤ B.length) (hl : B.length ≤ 140737488355328) :
    Spec Try.prog 128 [.pointer (some ⟨r, 0, none⟩), .int .i64 most] [rdO 189 r B s] F (fun _ : Unit => True) (fun _ => .int .i64 (rN most B s).1) (fun _ => [rdO 189 r B (rN most B s).2]) := by
  intro ω w hh
  refine enter Try.func128 rfl Try.ntmps128 rfl hh ?_
  simp only [List.cons_append, List.nil_append, argsB]
  refine do_seq ?_
  refine do_region ?_
  refine run_read rfl (by decide) (fun _ => nofun) (rd_assign rfl) ?_
  refine run_nil ?_
  refine St.then_n ?_
  refine do_seq ?_
  refine do_region ?_
  refine run_read rfl (by decide) (fun _ => nofun) (rd_move rfl) ?_
  refine run_read rfl (by decide) (fun _ => nofun) (rd_move rfl) ?_
  refine run_spec rfl (by decide) (by kernel_rfl) rfl (by repeat (first | exact Pick.nil | apply Pick.cons (by repeat (first | with_reducible exact Sel.head | apply Sel.tail)))) (sized_spec _ most hm hs hl) ?_
  rintro ⟨⟩ -
  try simp only [List.cons_append, List.nil_append]
  refine run_read rfl (by decide) (fun _ => nofun) (rd_assign rfl) ?_
  refine run_nil ?_
  refine St.keep (β' := [(4, _)]) ⟨rfl, trivial⟩ ?_
  refine St.then_n ?_
  refine do_ret ?_
  refine do_ret1 Try.results128 (res_tmp rfl) ?_
  intro w hw
  exact ⟨(), trivial, rfl, hw⟩
theorem rdBytes_spec (F : HP) (hs : s.at_ ≤ B.length) (hl : B.length ≤ 140737488355328) :
    Spec Try.prog 84 [.pointer (some ⟨r, 0, none⟩)] [rdO 189 r B s] F (fun _ : Value => True) (fun v => v) (fun v => [bytesO v (rB B s).1, rdO 189 r B (rB B s).2]) := by
  intro ω w hh
  refine enter Try.func84 rfl Try.ntmps84 rfl hh ?_
  simp only [List.cons_append, List.nil_append, argsB]
  obtain ⟨hok, hno⟩ := rN_ok (most := 65536) hs
  have kb := @rB_err B s
  have kg := @rB_good B s
  obtain ⟨⟨n, s1⟩, hr⟩ : ∃ q, rN 65536 B s = q := ⟨_, rfl⟩
  rw [hr] at hok hno kb kg
  dsimp only at hok hno kb kg
  by_cases hy : s1.why = 0
  · have kg' : rB B s = ((B.drop s1.at_).take n, ⟨s1.at_ + n, s1.why⟩) := by rw [kg hy, hy]
    rw [kg']
    have hn := hno hy
    refine do_seq ?_
    refine do_region ?_
    refine run_read rfl (by decide) (fun _ => nofun) (rd_assign rfl) ?_
    refine run_nil ?_
    refine St.then_n ?_
    refine do_seq ?_
    refine do_region ?_
    refine run_read rfl (by decide) (fun _ => nofun) (rd_move rfl) ?_
    refine run_spec rfl (by decide) (by kernel_rfl) rfl (by repeat (first | exact Pick.nil | apply Pick.cons (by repeat (first | with_reducible exact Sel.head | apply Sel.tail)))) (sized_spec _ 65536 (by decide) hs hl) ?_
    rintro ⟨⟩ -
    rw [hr]
    dsimp only
    try simp only [List.cons_append, List.nil_append]
    refine run_read rfl (by decide) (fun _ => nofun) (rd_assign rfl) ?_
    refine run_nil ?_
    refine St.then_n ?_
    refine do_seq ?_
    refine do_seq ?_
    refine do_region ?_
    refine run_read rfl (by decide) (fun _ => nofun) (rd_move rfl) ?_
    refine run_spec rfl (by decide) (by kernel_rfl) rfl (by repeat (first | exact Pick.nil | apply Pick.cons (by repeat (first | with_reducible exact Sel.head | apply Sel.tail)))) (ok_spec _) ?_
    rintro ⟨⟩ -
    rw [decide_eq_true hy]
    try simp only [List.cons_append, List.nil_append]
    refine run_read rfl (by decide) (fun _ => nofun) (rd_not rfl) ?_
    refine run_nil ?_
    refine St.keep (β' := [(0, _), (3, _), (9, _)]) ⟨rfl, rfl, rfl, trivial⟩ ?_
    refine St.then_n ?_
    refine do_cond_f rfl ?_
    refine do_skip ?_
    refine St.then_n ?_
    refine do_seq ?_
    refine do_region ?_
    refine St.sel (P := rdO 189 r B s1) (by repeat (first | with_reducible exact Sel.head | apply Sel.tail)) (St.rd_open fun A cap => ?_)
    refine St.vw vw_bytes (.tail .head) (fun A' c' hv h1 h2 _ => ?_)
    cases hv
    refine run_read rfl (by decide) (fun _ => nofun) (rd_move rfl) ?_
    refine run_spec rfl (by decide) (by kernel_rfl) rfl (by repeat (first | exact Pick.nil | apply Pick.cons (by repeat (first | with_reducible exact Sel.head | apply Sel.tail)))) (left_spec (s := s1) _ A cap hok) ?_
    rintro ⟨⟩ -
    try simp only [List.cons_append, List.nil_append]
    refine run_read rfl (by decide) (fun _ => nofun) (rd_move rfl) ?_
    refine run_read rfl (by decide) (fun _ => nofun) (rd_slice (i := 0) (j := n) Try.underlying26 ei5 rfl rfl rfl (by omega) (by omega) (by omega)) ?_
    refine run_spec rfl (by decide) (by kernel_rfl) rfl (by repeat (first | exact Pick.nil | apply Pick.cons (by repeat (first | with_reducible exact Sel.head | apply Sel.tail)))) (cloneB_spec _ _ ((B.drop s1.at_).take n) (Vw.sep (vw_sub0 (vw_left hok) (by rw [List.length_drop]; omega)) (by repeat (first | with_reducible exact Sel.head | apply Sel.tail))) (by rw [List.length_take, List.length_drop]; omega)) ?_
    rintro v1 -
    refine St.vw vw_bytes .head (fun A1 c1 hv _ _ _ => ?_)
    subst hv
    try simp only [List.cons_append, List.nil_append]
    refine run_read rfl (by decide) (fun _ => nofun) (rd_assign rfl) ?_
    refine run_nil ?_
    refine St.keep (β' := [(0, _), (3, _), (4, _)]) ⟨rfl, rfl, rfl, trivial⟩ ?_
    refine St.then_n ?_
    refine do_seq ?_
    refine do_region ?_
    refine run_read rfl (by decide) (fun _ => nofun) (rd_move rfl) ?_
    refine run_read rfl (by decide) (fun _ => nofun) (rd_nilCheck rfl) ?_
    first | refine run_read rfl (by decide) (fun _ => nofun) (rd_fieldAddr0 rfl fld189_1) ?_ | refine run_read rfl (by decide) (fun _ => nofun) (rd_fieldAddr rfl fld189_1) ?_
    refine run_read rfl (by decide) (fun _ => nofun) (rd_load rfl row3 (cells_pts1 (by repeat (first | with_reducible exact Sel.head | apply Sel.tail)) rfl)) ?_
    refine run_read rfl (by decide) (fun _ => nofun) (rd_move rfl) ?_
    first | refine run_read rfl (by decide) (fun _ => nofun) ((rd_add rfl rfl).eq (congrArg (Value.int .i64) (IntWalk.i64_in _ (by omega)))) ?_ | refine run_read rfl (by decide) (fun _ => nofun) (rd_add rfl rfl) ?_
    refine run_read rfl (by decide) (fun _ => nofun) (rd_nilCheck rfl) ?_
    first | refine run_read rfl (by decide) (fun _ => nofun) (rd_fieldAddr0 rfl fld189_1) ?_ | refine run_read rfl (by decide) (fun _ => nofun) (rd_fieldAddr rfl fld189_1) ?_
    refine run_store rfl rfl rfl (by repeat (first | with_reducible exact Sel.head | apply Sel.tail)) row3 rfl rfl (by simp only [List.set_cons_succ, List.set_cons_zero]; exact rfl) ?_
    refine run_nil ?_
    refine St.keep (β' := [(4, _)]) ⟨rfl, trivial⟩ ?_
    refine St.then_n ?_
    refine do_seq ?_
    refine do_region ?_
    refine run_read rfl (by decide) (fun _ => nofun) (rd_move rfl) ?_
    refine run_read rfl (by decide) (fun _ => nofun) (rd_assign rfl) ?_
    refine run_nil ?_
    refine St.then_n ?_
    refine do_ret ?_
    refine do_ret1 Try.results84 (res_tmp rfl) ?_
    intro w hw
    exact ⟨_, trivial, rfl, Holds.swap_ (Holds.rd_shut (A := A) (cap := cap) ⟨s1.at_ + n, s1.why⟩ (.cons .head (.cons (by repeat (first | with_reducible exact Sel.head | apply Sel.tail)) .nil)) hw)⟩
  · rw [kb hy]
    refine do_seq ?_
    refine do_region ?_
    refine run_read rfl (by decide) (fun _ => nofun) (rd_assign rfl) ?_
    refine run_nil ?_
    refine St.then_n ?_
    refine do_seq ?_
    refine do_region ?_
    refine run_read rfl (by decide) (fun _ => nofun) (rd_move rfl) ?_
    refine run_spec rfl (by decide) (by kernel_rfl) rfl (by repeat (first | exact Pick.nil | apply Pick.cons (by repeat (first | with_reducible exact Sel.head | apply Sel.tail)))) (sized_spec _ 65536 (by decide) hs hl) ?_
    rintro ⟨⟩ -
    rw [hr]
    dsimp only
    try simp only [List.cons_append, List.nil_append]
    refine run_read rfl (by decide) (fun _ => nofun) (rd_assign rfl) ?_
    refine run_nil ?_
    refine St.then_n ?_
    refine do_seq ?_
    refine do_seq ?_
    refine do_region ?_
    refine run_read rfl (by decide) (fun _ => nofun) (rd_move rfl) ?_
    refine run_spec rfl (by decide) (by kernel_rfl) rfl (by repeat (first | exact Pick.nil | apply Pick.cons (by repeat (first | with_reducible exact Sel.head | apply Sel.tail)))) (ok_spec _) ?_
    rintro ⟨⟩ -
    rw [decide_eq_false hy]
    try simp only [List.cons_append, List.nil_append]
    refine run_read rfl (by decide) (fun _ => nofun) (rd_not rfl) ?_
    refine run_nil ?_
    refine St.keep (β' := [(0, _), (3, _), (9, _)]) ⟨rfl, rfl, rfl, trivial⟩ ?_
    refine St.then_n ?_
    refine do_cond_t rfl ?_
    refine do_seq ?_
    refine do_region ?_
    refine run_read rfl (by decide) (fun _ => nofun) (rd_assign rfl) ?_
    refine run_nil ?_
    refine St.then_n ?_
    refine do_ret ?_
    refine St.then_r ?_
    refine do_ret1 Try.results84 (res_tmp rfl) ?_
    intro w hw
    exact ⟨_, trivial, rfl, Holds.own_nil hw⟩
theorem rdText_spec (F : HP) (hs : s.at_ ≤ B.length) (hl : B.length ≤ 140737488355328) :
    Spec Try.prog 124 [.pointer (some ⟨r, 0, none⟩)] [rdO 189 r B s] F (fun _ : Unit => True) (fun _ => .string (strOf (rB B s).1)) (fun _ => [rdO 189 r B (rB B s).2]) := by
  intro ω w hh
  refine enter Try.func124 rfl Try.ntmps124 rfl hh ?_
  simp only [List.cons_append, List.nil_append, argsB]
  refine do_seq ?_
  refine do_region ?_
  refine run_read rfl (by decide) (fun _ => nofun) (rd_assign rfl) ?_
  refine run_nil ?_
  refine St.then_n ?_
  refine do_seq ?_
  refine do_region ?_
  refine run_read rfl (by decide) (fun _ => nofun) (rd_move rfl) ?_
  refine run_spec rfl (by decide) (by kernel_rfl) rfl (by repeat (first | exact Pick.nil | apply Pick.cons (by repeat (first | with_reducible exact Sel.head | apply Sel.tail)))) (rdBytes_spec _ hs hl) ?_
  rintro v1 -
  try simp only [List.cons_append, List.nil_append]
  refine run_read rfl (by decide) (fun _ => nofun) (rd_bytes_string Try.underlying26 Try.underlying5 Try.underlying9 rfl vw_bytes .head) ?_
  refine run_read rfl (by decide) (fun _ => nofun) (rd_assign rfl) ?_
  refine run_nil ?_
  refine St.keep (β' := [(2, _)]) ⟨rfl, trivial⟩ ?_
  refine St.then_n ?_
  refine do_ret ?_
  refine do_ret1 Try.results124 (res_tmp rfl) ?_
  intro w hw
  exact ⟨(), trivial, rfl, hw.drop⟩
theorem rT_err (h : s.why ≠ 0) : rT B s = (false, s) := if_pos h
theorem rT_none (h : s.why = 0) (h1 : B[s.at_]? = none) : rT B s = (false, ⟨s.at_, 10⟩) := by unfold rT; rw [if_neg (by simp [h]), h1]
theorem rT_big {c : UInt8} (h : s.why = 0) (h1 : B[s.at_]? = some c) (h2 : 1 < c.toNat) : rT B s = (false, ⟨s.at_, 11⟩) := by
  unfold rT; rw [if_neg (by simp [h]), h1]; exact if_pos h2
theorem rT_good {c : UInt8} (h : s.why = 0) (h1 : B[s.at_]? = some c) (h2 : ¬ 1 < c.toNat) : rT B s = (decide (c.toNat = 1), ⟨s.at_ + 1, 0⟩) := by
  unfold rT; rw [if_neg (by simp [h]), h1]; exact if_neg h2
theorem rdBool_spec (F : HP) (hs : s.at_ ≤ B.length) (hl : B.length ≤ 140737488355328) :
    Spec Try.prog 92 [.pointer (some ⟨r, 0, none⟩)] [rdO 189 r B s] F (fun _ : Unit => True) (fun _ => .bool (rT B s).1) (fun _ => [rdO 189 r B (rT B s).2]) := by
  intro ω w hh
  refine enter Try.func92 rfl Try.ntmps92 rfl hh ?_
  simp only [List.cons_append, List.nil_append, argsB]
  by_cases hy : s.why = 0
  · have hyy := hy
    refine do_seq ?_
    refine do_region ?_
    refine run_read rfl (by decide) (fun _ => nofun) (rd_assign rfl) ?_
    refine run_nil ?_
    refine St.then_n ?_
    refine do_seq ?_
    refine do_seq ?_
    refine do_region ?_
    refine run_read rfl (by decide) (fun _ => nofun) (rd_move rfl) ?_
    refine run_spec rfl (by decide) (by kernel_rfl) rfl (by repeat (first | exact Pick.nil | apply Pick.cons (by repeat (first | with_reducible exact Sel.head | apply Sel.tail)))) (ok_spec _) ?_
    rintro ⟨⟩ -
    rw [decide_eq_true hy]
    try simp only [List.cons_append, List.nil_append]
    refine run_read rfl (by decide) (fun _ => nofun) (rd_not rfl) ?_
    refine run_nil ?_
    refine St.then_n ?_
    refine do_cond_f rfl ?_
    refine do_skip ?_
    refine St.then_n ?_
    refine do_seq ?_
    refine do_region ?_
    refine St.sel (P := rdO 189 r B s) (by repeat (first | with_reducible exact Sel.head | apply Sel.tail)) (St.rd_open fun A cap => ?_)
    refine run_read rfl (by decide) (fun _ => nofun) (rd_move rfl) ?_
    refine run_spec rfl (by decide) (by kernel_rfl) rfl (by repeat (first | exact Pick.nil | apply Pick.cons (by repeat (first | with_reducible exact Sel.head | apply Sel.tail)))) (left_spec (s := s) _ A cap hs) ?_
    rintro ⟨⟩ -
    try simp only [List.cons_append, List.nil_append]
    refine run_read rfl (by decide) (fun _ => nofun) (rd_assign rfl) ?_
    refine run_nil ?_
    refine St.keep (β' := [(0, _), (3, _)]) ⟨rfl, rfl, trivial⟩ ?_
    refine St.then_n ?_
    refine do_seq ?_
    refine do_block ?_
    refine do_seq ?_
    refine do_region ?_
    refine run_read rfl (by decide) (fun _ => nofun) (rd_move rfl) ?_
    refine run_read rfl (by decide) (fun _ => nofun) (rd_len Try.underlying26 rfl) ?_
    refine run_read rfl (by decide) (fun _ => nofun) (rd_eq rfl rfl) ?_
    refine run_read rfl (by decide) (fun _ => nofun) (rd_assign rfl) ?_
    refine run_nil ?_
    refine St.then_n ?_
    first | refine do_condp rfl (fun h20 => ?_) (fun h20 => ?_) | refine do_cond rfl (fun h20 => ?_) (fun h20 => ?_)
    · have hn : B[s.at_]? = none := List.getElem?_eq_none (by omega)
      refine do_region ?_
      refine run_read rfl (by decide) (fun _ => nofun) (rd_move rfl) ?_
      refine run_read rfl (by decide) (fun _ => nofun) (rd_nilCheck rfl) ?_
      first | refine run_read rfl (by decide) (fun _ => nofun) (rd_fieldAddr0 rfl fld189_2) ?_ | refine run_read rfl (by decide) (fun _ => nofun) (rd_fieldAddr rfl fld189_2) ?_
      refine run_store rfl rfl rfl (by repeat (first | with_reducible exact Sel.head | apply Sel.tail)) row25 rfl rfl (by simp only [List.set_cons_succ, List.set_cons_zero]; exact rfl) ?_
      refine run_nil ?_
      refine St.keep (β' := []) trivial ?_
      refine St.blk_n ?_
      refine St.then_n ?_
      refine do_seq ?_
      refine do_region ?_
      refine run_read rfl (by decide) (fun _ => nofun) (rd_assign rfl) ?_
      refine run_nil ?_
      refine St.then_n ?_
      refine do_ret ?_
      refine do_ret1 Try.results92 (res_tmp rfl) ?_
      intro w hw
      rw [rT_none hy hn]
      exact ⟨(), trivial, rfl, Holds.rd_shut (A := A) (cap := cap) ⟨s.at_, 10⟩ (by repeat (first | exact Pick.nil | apply Pick.cons (by repeat (first | with_reducible exact Sel.head | apply Sel.tail)))) hw⟩
    · have hx := List.getElem?_eq_getElem (l := B) (i := s.at_) (by omega)
      generalize B[s.at_]'_ = c at hx
      have hcell : ((B.drop s.at_).map bcell)[0]? = some (bcell c) := by rw [List.getElem?_map, List.getElem?_drop, Nat.add_zero, hx]; rfl
      have hV := vw_left (A := A) (cap := cap) hs
      obtain ⟨sa, hsa⟩ : ∃ sa, subA A cap s.at_ 1 = sa := ⟨_, rfl⟩
      rw [hsa] at hV ⊢
      unfold VwB at hV
      rw [List.length_drop] at hV
      refine St.vw_some hV (by repeat (first | with_reducible exact Sel.head | apply Sel.tail)) (by omega) (fun g of hg _ _ => ?_)
      subst hg
      refine do_seq ?_
      refine do_region ?_
      refine run_read rfl (by decide) (fun _ => nofun) (rd_move rfl) ?_
      refine run_read rfl (by decide) (fun _ => nofun) ((rd_indexAddr Try.underlying26 ei5 rfl rfl (by omega) (by omega)).eq (show _ = Value.pointer (some ⟨g, of + 0, none⟩) by simp)) ?_
      refine run_read rfl (by decide) (fun _ => nofun) (rd_load rfl row5 (Vw.cells1 hV (by repeat (first | with_reducible exact Sel.head | apply Sel.tail)) (by omega) hcell)) ?_
      refine run_read rfl (by decide) (fun _ => nofun) (rd_gt rfl rfl) ?_
      refine run_read rfl (by decide) (fun _ => nofun) (rd_assign rfl) ?_
      refine run_nil ?_
      refine St.keep (β' := [(0, _), (3, _), (27, _)]) ⟨rfl, rfl, rfl, trivial⟩ ?_
      refine St.then_n ?_
      first | refine do_condp rfl (fun h27 => ?_) (fun h27 => ?_) | refine do_cond rfl (fun h27 => ?_) (fun h27 => ?_)
      · refine do_region ?_
        refine run_read rfl (by decide) (fun _ => nofun) (rd_move rfl) ?_
        refine run_read rfl (by decide) (fun _ => nofun) (rd_nilCheck rfl) ?_
        first | refine run_read rfl (by decide) (fun _ => nofun) (rd_fieldAddr0 rfl fld189_2) ?_ | refine run_read rfl (by decide) (fun _ => nofun) (rd_fieldAddr rfl fld189_2) ?_
        refine run_store rfl rfl rfl (by repeat (first | with_reducible exact Sel.head | apply Sel.tail)) row25 rfl rfl (by simp only [List.set_cons_succ, List.set_cons_zero]; exact rfl) ?_
        refine run_nil ?_
        refine St.keep (β' := []) trivial ?_
        refine St.blk_n ?_
        refine St.then_n ?_
        refine do_seq ?_
        refine do_region ?_
        refine run_read rfl (by decide) (fun _ => nofun) (rd_assign rfl) ?_
        refine run_nil ?_
        refine St.then_n ?_
        refine do_ret ?_
        refine do_ret1 Try.results92 (res_tmp rfl) ?_
        intro w hw
        rw [rT_big hy hx (by omega)]
        exact ⟨(), trivial, rfl, Holds.rd_shut (A := A) (cap := cap) ⟨s.at_, 11⟩ (by repeat (first | exact Pick.nil | apply Pick.cons (by repeat (first | with_reducible exact Sel.head | apply Sel.tail)))) hw⟩
      · refine do_seq ?_
        refine do_region ?_
        refine run_read rfl (by decide) (fun _ => nofun) (rd_move rfl) ?_
        refine run_read rfl (by decide) (fun _ => nofun) (rd_nilCheck rfl) ?_
        first | refine run_read rfl (by decide) (fun _ => nofun) (rd_fieldAddr0 rfl fld189_1) ?_ | refine run_read rfl (by decide) (fun _ => nofun) (rd_fieldAddr rfl fld189_1) ?_
        refine run_read rfl (by decide) (fun _ => nofun) (rd_load rfl row3 (cells_pts1 (by repeat (first | with_reducible exact Sel.head | apply Sel.tail)) rfl)) ?_
        first | refine run_read rfl (by decide) (fun _ => nofun) ((rd_add rfl rfl).eq (congrArg (Value.int .i64) (IntWalk.i64_in _ (by omega)))) ?_ | refine run_read rfl (by decide) (fun _ => nofun) (rd_add rfl rfl) ?_
        refine run_read rfl (by decide) (fun _ => nofun) (rd_nilCheck rfl) ?_
        first | refine run_read rfl (by decide) (fun _ => nofun) (rd_fieldAddr0 rfl fld189_1) ?_ | refine run_read rfl (by decide) (fun _ => nofun) (rd_fieldAddr rfl fld189_1) ?_
        refine run_store rfl rfl rfl (by repeat (first | with_reducible exact Sel.head | apply Sel.tail)) row3 rfl rfl (by simp only [List.set_cons_succ, List.set_cons_zero]; exact rfl) ?_
        refine run_nil ?_
        refine St.keep (β' := [(3, _)]) ⟨rfl, trivial⟩ ?_
        refine St.then_n ?_
        refine do_seq ?_
        refine do_region ?_
        refine run_read rfl (by decide) (fun _ => nofun) (rd_move rfl) ?_
        refine run_read rfl (by decide) (fun _ => nofun) ((rd_indexAddr Try.underlying26 ei5 rfl rfl (by omega) (by omega)).eq (show _ = Value.pointer (some ⟨g, of + 0, none⟩) by simp)) ?_
        refine run_read rfl (by decide) (fun _ => nofun) (rd_load rfl row5 (Vw.cells1 hV (by repeat (first | with_reducible exact Sel.head | apply Sel.tail)) (by omega) hcell)) ?_
        refine run_read rfl (by decide) (fun _ => nofun) (rd_eq rfl rfl) ?_
        refine run_read rfl (by decide) (fun _ => nofun) (rd_assign rfl) ?_
        refine run_nil ?_
        refine St.keep (β' := [(2, _)]) ⟨rfl, trivial⟩ ?_
        refine St.then_n ?_
        refine do_ret ?_
        refine St.blk_r ?_
        refine St.then_r ?_
        refine do_ret1 Try.results92 (res_tmp rfl) ?_
        intro w hw
        rw [rT_good hy hx (by omega), ← hy]
        exact ⟨(), trivial, by simp; omega, Holds.rd_shut (A := A) (cap := cap) ⟨s.at_ + 1, s.why⟩ (.cons .head (.cons (by repeat (first | with_reducible exact Sel.head | apply Sel.tail)) .nil)) hw⟩
  · rw [rT_err hy]
    refine do_seq ?_
    refine do_region ?_
    refine run_read rfl (by decide) (fun _ => nofun) (rd_assign rfl) ?_
    refine run_nil ?_
    refine St.then_n ?_
    refine do_seq ?_
    refine do_seq ?_
    refine do_region ?_
    refine run_read rfl (by decide) (fun _ => nofun) (rd_move rfl) ?_
    refine run_spec rfl (by decide) (by kernel_rfl) rfl (by repeat (first | exact Pick.nil | apply Pick.cons (by repeat (first | with_reducible exact Sel.head | apply Sel.tail)))) (ok_spec _) ?_
    rintro ⟨⟩ -
    rw [decide_eq_false hy]
    try simp only [List.cons_append, List.nil_append]
    refine run_read rfl (by decide) (fun _ => nofun) (rd_not rfl) ?_
    refine run_nil ?_
    refine St.then_n ?_
    refine do_cond_t rfl ?_
    refine do_seq ?_
    refine do_region ?_
    refine run_read rfl (by decide) (fun _ => nofun) (rd_assign rfl) ?_
    refine run_nil ?_
    refine St.keep (β' := [(2, _)]) ⟨rfl, trivial⟩ ?_
    refine St.then_n ?_
    refine do_ret ?_
    refine St.then_r ?_
    refine do_ret1 Try.results92 (res_tmp rfl) ?_
    intro w hw
    exact ⟨(), trivial, rfl, hw⟩
theorem rdEnd_spec (F : HP) (hs : s.at_ ≤ B.length) (hl : B.length ≤ 140737488355328) :
    Spec Try.prog 85 [.pointer (some ⟨r, 0, none⟩)] [rdO 189 r B s] F (fun _ : Unit => True) (fun _ => .int .i64 (rE B s)) (fun _ => [rdO 189 r B s]) := by
  intro ω w hh
  refine enter Try.func85 rfl Try.ntmps85 rfl hh ?_
  simp only [List.cons_append, List.nil_append, argsB]
  refine St.rd_open fun A cap => ?_
  by_cases hy : s.why = 0
  · have hyy := hy
    refine do_seq ?_
    refine do_region ?_
    refine run_read rfl (by decide) (fun _ => nofun) (rd_assign rfl) ?_
    refine run_nil ?_
    refine St.then_n ?_
    refine do_seq ?_
    refine do_block ?_
    refine do_seq ?_
    refine do_region ?_
    refine run_read rfl (by decide) (fun _ => nofun) (rd_move rfl) ?_
    refine run_read rfl (by decide) (fun _ => nofun) (rd_ptr_eq_nil Try.underlying146 rfl rfl) ?_
    refine run_read rfl (by decide) (fun _ => nofun) (rd_assign rfl) ?_
    refine run_nil ?_
    refine St.then_n ?_
    refine do_cond_f rfl ?_
    refine do_seq ?_
    refine do_region ?_
    refine run_read rfl (by decide) (fun _ => nofun) (rd_move rfl) ?_
    refine run_read rfl (by decide) (fun _ => nofun) (rd_nilCheck rfl) ?_
    first | refine run_read rfl (by decide) (fun _ => nofun) (rd_fieldAddr0 rfl fld189_2) ?_ | refine run_read rfl (by decide) (fun _ => nofun) (rd_fieldAddr rfl fld189_2) ?_
    refine run_read rfl (by decide) (fun _ => nofun) (rd_load rfl row25 (cells_pts1 (by repeat (first | with_reducible exact Sel.head | apply Sel.tail)) rfl)) ?_
    refine run_read rfl (by decide) (fun _ => nofun) ((rd_eq rfl rfl).eq (show _ = Value.bool true by simp [hy])) ?_
    refine run_read rfl (by decide) (fun _ => nofun) (rd_move rfl) ?_
    first | (refine run_skip rfl rfl ?_) | (refine run_read rfl (by decide) (fun _ => nofun) (rd_move rfl) ?_)
    first
      | (refine run_skip rfl rfl ?_)
      | (refine run_spec rfl (by decide) (by kernel_rfl) rfl (by repeat (first | exact Pick.nil | apply Pick.cons (by repeat (first | with_reducible exact Sel.head | apply Sel.tail)))) (left_spec (s := s) _ A cap hs) ?_
         rintro ⟨⟩ -
         try simp only [List.cons_append, List.nil_append])
    first | (refine run_skip rfl rfl ?_) | (refine run_read rfl (by decide) (fun _ => nofun) (rd_len Try.underlying26 rfl) ?_)
    first | (refine run_skip rfl rfl ?_) | (refine run_read rfl (by decide) (fun _ => nofun) (rd_gt rfl rfl) ?_)
    first | refine run_read rfl (by decide) (fun _ => nofun) (rd_pick_t rfl rfl) ?_ | refine run_read rfl (by decide) (fun _ => nofun) (rd_pick_f rfl rfl) ?_
    refine run_read rfl (by decide) (fun _ => nofun) (rd_assign rfl) ?_
    refine run_nil ?_
    refine St.keep (β' := [(0, _), (6, _)]) ⟨rfl, rfl, trivial⟩ ?_
    refine St.then_n ?_
    first | refine do_condp rfl (fun h6 => ?_) (fun h6 => ?_) | refine do_cond rfl (fun h6 => ?_) (fun h6 => ?_)
    · refine do_seq ?_
      refine do_region ?_
      refine run_read rfl (by decide) (fun _ => nofun) (rd_assign rfl) ?_
      refine run_nil ?_
      refine St.then_n ?_
      refine do_ret ?_
      refine St.blk_r ?_
      refine St.then_r ?_
      refine do_ret1 Try.results85 (res_tmp rfl) ?_
      intro w hw
      exact ⟨(), trivial, by rw [show rE B s = 11 from if_pos ⟨hy, by omega⟩], Holds.rd_shut (A := A) (cap := cap) s (by repeat (first | exact Pick.nil | apply Pick.cons (by repeat (first | with_reducible exact Sel.head | apply Sel.tail)))) hw⟩
    · refine do_skip ?_
      refine St.blk_n ?_
      refine St.then_n ?_
      refine do_seq ?_
      refine do_region ?_
      refine run_read rfl (by decide) (fun _ => nofun) (rd_move rfl) ?_
      refine run_read rfl (by decide) (fun _ => nofun) (rd_nilCheck rfl) ?_
      first | refine run_read rfl (by decide) (fun _ => nofun) (rd_fieldAddr0 rfl fld189_2) ?_ | refine run_read rfl (by decide) (fun _ => nofun) (rd_fieldAddr rfl fld189_2) ?_
      refine run_read rfl (by decide) (fun _ => nofun) (rd_load rfl row25 (cells_pts1 (by repeat (first | with_reducible exact Sel.head | apply Sel.tail)) rfl)) ?_
      refine run_read rfl (by decide) (fun _ => nofun) (rd_assign rfl) ?_
      refine run_nil ?_
      refine St.keep (β' := [(2, _)]) ⟨rfl, trivial⟩ ?_
      refine St.then_n ?_
      refine do_ret ?_
      refine do_ret1 Try.results85 (res_tmp rfl) ?_
      intro w hw
      exact ⟨(), trivial, by rw [show rE B s = s.why from if_neg (by omega)], Holds.rd_shut (A := A) (cap := cap) s (by repeat (first | exact Pick.nil | apply Pick.cons (by repeat (first | with_reducible exact Sel.head | apply Sel.tail)))) hw⟩
  · have hyy := hy
    refine do_seq ?_
    refine do_region ?_
    refine run_read rfl (by decide) (fun _ => nofun) (rd_assign rfl) ?_
    refine run_nil ?_
    refine St.then_n ?_
    refine do_seq ?_
    refine do_block ?_
    refine do_seq ?_
    refine do_region ?_
    refine run_read rfl (by decide) (fun _ => nofun) (rd_move rfl) ?_
    refine run_read rfl (by decide) (fun _ => nofun) (rd_ptr_eq_nil Try.underlying146 rfl rfl) ?_
    refine run_read rfl (by decide) (fun _ => nofun) (rd_assign rfl) ?_
    refine run_nil ?_
    refine St.then_n ?_
    refine do_cond_f rfl ?_
    refine do_seq ?_
    refine do_region ?_
    refine run_read rfl (by decide) (fun _ => nofun) (rd_move rfl) ?_
    refine run_read rfl (by decide) (fun _ => nofun) (rd_nilCheck rfl) ?_
    first | refine run_read rfl (by decide) (fun _ => nofun) (rd_fieldAddr0 rfl fld189_2) ?_ | refine run_read rfl (by decide) (fun _ => nofun) (rd_fieldAddr rfl fld189_2) ?_
    refine run_read rfl (by decide) (fun _ => nofun) (rd_load rfl row25 (cells_pts1 (by repeat (first | with_reducible exact Sel.head | apply Sel.tail)) rfl)) ?_
    refine run_read rfl (by decide) (fun _ => nofun) ((rd_eq rfl rfl).eq (show _ = Value.bool false by simp [hy])) ?_
    refine run_read rfl (by decide) (fun _ => nofun) (rd_move rfl) ?_
    first | (refine run_skip rfl rfl ?_) | (refine run_read rfl (by decide) (fun _ => nofun) (rd_move rfl) ?_)
    first
      | (refine run_skip rfl rfl ?_)
      | (refine run_spec rfl (by decide) (by kernel_rfl) rfl (by repeat (first | exact Pick.nil | apply Pick.cons (by repeat (first | with_reducible exact Sel.head | apply Sel.tail)))) (left_spec (s := s) _ A cap hs) ?_
         rintro ⟨⟩ -
         try simp only [List.cons_append, List.nil_append])
    first | (refine run_skip rfl rfl ?_) | (refine run_read rfl (by decide) (fun _ => nofun) (rd_len Try.underlying26 rfl) ?_)
    first | (refine run_skip rfl rfl ?_) | (refine run_read rfl (by decide) (fun _ => nofun) (rd_gt rfl rfl) ?_)
    first | refine run_read rfl (by decide) (fun _ => nofun) (rd_pick_t rfl rfl) ?_ | refine run_read rfl (by decide) (fun _ => nofun) (rd_pick_f rfl rfl) ?_
    refine run_read rfl (by decide) (fun _ => nofun) (rd_assign rfl) ?_
    refine run_nil ?_
    refine St.keep (β' := [(0, _), (6, _)]) ⟨rfl, rfl, trivial⟩ ?_
    refine St.then_n ?_
    refine do_cond_f rfl ?_
    refine do_skip ?_
    refine St.blk_n ?_
    refine St.then_n ?_
    refine do_seq ?_
    refine do_region ?_
    refine run_read rfl (by decide) (fun _ => nofun) (rd_move rfl) ?_
    refine run_read rfl (by decide) (fun _ => nofun) (rd_nilCheck rfl) ?_
    first | refine run_read rfl (by decide) (fun _ => nofun) (rd_fieldAddr0 rfl fld189_2) ?_ | refine run_read rfl (by decide) (fun _ => nofun) (rd_fieldAddr rfl fld189_2) ?_
    refine run_read rfl (by decide) (fun _ => nofun) (rd_load rfl row25 (cells_pts1 (by repeat (first | with_reducible exact Sel.head | apply Sel.tail)) rfl)) ?_
    refine run_read rfl (by decide) (fun _ => nofun) (rd_assign rfl) ?_
    refine run_nil ?_
    refine St.keep (β' := [(2, _)]) ⟨rfl, trivial⟩ ?_
    refine St.then_n ?_
    refine do_ret ?_
    refine do_ret1 Try.results85 (res_tmp rfl) ?_
    intro w hw
    exact ⟨(), trivial, by rw [show rE B s = s.why from if_neg (fun h => hy h.1)], Holds.rd_shut (A := A) (cap := cap) s (by repeat (first | exact Pick.nil | apply Pick.cons (by repeat (first | with_reducible exact Sel.head | apply Sel.tail)))) hw⟩
end
end Go.Proofs.Ytglcmlicfmmlpaa
