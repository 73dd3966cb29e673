/-
  The reference's reader: truths, bytes, texts, counts, the end.
-/
import Derived.Test.YtglcmlicfmmlpaaC17
namespace Go.Proofs.Ytglcmlicfmmlpaa
open Go.RowKit
set_option linter.unusedSimpArgs false
set_option linter.unusedVariables false

theorem vw_part {A : Option Addr} {cap i n : Nat} {B : List UInt8} (h : i + n ≤ B.length) : VwB (bytesO (.slice A B.length cap) B) (.slice (subA A cap i 1) n (cap - i)) ((B.drop i).take n) := by
  have := Vw.sub (F := bytesO (.slice A B.length cap) B) (k := 1) vw_bytes (i := i) (j := i + n) (by decide) (by omega) h
  unfold VwB
  rw [Nat.add_sub_cancel_left, Nat.mul_one, Nat.mul_one] at this
  rw [List.length_take, List.length_drop, Nat.min_eq_left (by omega), List.map_take, List.map_drop]
  exact this
section
variable {r : Nat} {B : List UInt8} {s : RS}
theorem refRdBool_spec (F : HP) (hs : s.at_ ≤ B.length) (hl : B.length ≤ 140737488355328) :
    Spec Try.prog 94 [.pointer (some ⟨r, 0, none⟩)] [rdO 194 r B s] F (fun _ : Unit => True) (fun _ => .bool (rT B s).1) (fun _ => [rdO 194 r B (rT B s).2]) := by
  intro ω w hh
  refine enter Try.func94 rfl Try.ntmps94 rfl hh ?_
  simp only [List.cons_append, List.nil_append, argsB]
  refine St.rd_open fun A cap => ?_
  by_cases hy : s.why = 0
  · have hyy := hy
    refine do_seq ?_
    refine do_region ?_
    refine run_read rfl (by decide) (fun _ => nofun) (rd_assign rfl) ?_
    refine run_nil ?_
    refine St.then_n ?_
    refine do_seq ?_
    refine do_seq ?_
    refine do_region ?_
    refine run_read rfl (by decide) (fun _ => nofun) (rd_move rfl) ?_
    refine run_read rfl (by decide) (fun _ => nofun) (rd_nilCheck rfl) ?_
    first | refine run_read rfl (by decide) (fun _ => nofun) (rd_fieldAddr0 rfl fld194_2) ?_ | refine run_read rfl (by decide) (fun _ => nofun) (rd_fieldAddr rfl fld194_2) ?_
    refine run_read rfl (by decide) (fun _ => nofun) (rd_load rfl row25 (cells_pts1 (by repeat (first | with_reducible exact Sel.head | apply Sel.tail)) rfl)) ?_
    refine run_read rfl (by decide) (fun _ => nofun) (rd_ne rfl rfl) ?_
    refine run_nil ?_
    refine St.keep (β' := [(0, _), (8, _)]) ⟨rfl, rfl, trivial⟩ ?_
    refine St.then_n ?_
    refine do_condp rfl (fun h8 => absurd h8 (by omega)) (fun h8 => ?_)
    refine do_skip ?_
    refine St.then_n ?_
    refine do_seq ?_
    refine do_seq ?_
    refine do_draw [[1, 2, 3, 9], [2, 3, 9], [3, 9], [9], [5, 6, 7, 8, 9], [6, 7, 8, 9], [7, 8, 9], [8, 9], [9], []] (by kernel_rfl) rfl ?_
    refine any_take (i := 0) (by kernel_rfl) rfl rfl (by decide) (fun _ _ _ _ _ h => h) rfl (rd_move rfl) ?_
    refine any_take (i := 1) (by kernel_rfl) rfl rfl (by decide) (fun _ _ _ _ _ h => h) rfl (rd_nilCheck rfl) ?_
    first | refine any_take (i := 2) (by kernel_rfl) rfl rfl (by decide) (fun _ _ _ _ _ h => h) rfl (rd_fieldAddr0 rfl fld194_1) ?_ | refine any_take (i := 2) (by kernel_rfl) rfl rfl (by decide) (fun _ _ _ _ _ h => h) rfl (rd_fieldAddr rfl fld194_1) ?_
    refine any_take (i := 3) (by kernel_rfl) rfl rfl (by decide) (fun _ _ _ _ _ h => h) rfl (rd_load rfl row3 (cells_pts1 (by repeat (first | with_reducible exact Sel.head | apply Sel.tail)) rfl)) ?_
    refine any_take (i := 4) (by kernel_rfl) rfl rfl (by decide) (fun _ _ _ _ _ h => h) rfl (rd_move rfl) ?_
    refine any_take (i := 5) (by kernel_rfl) rfl rfl (by decide) (fun _ _ _ _ _ h => h) rfl (rd_nilCheck rfl) ?_
    first | refine any_take (i := 6) (by kernel_rfl) rfl rfl (by decide) (fun _ _ _ _ _ h => h) rfl (rd_fieldAddr0 rfl fld194_0) ?_ | refine any_take (i := 6) (by kernel_rfl) rfl rfl (by decide) (fun _ _ _ _ _ h => h) rfl (rd_fieldAddr rfl fld194_0) ?_
    refine any_take (i := 7) (by kernel_rfl) rfl rfl (by decide) (fun _ _ _ _ _ h => h) rfl (rd_load rfl row26 (cells_pts1 (by repeat (first | with_reducible exact Sel.head | apply Sel.tail)) rfl)) ?_
    refine any_take (i := 8) (by kernel_rfl) rfl rfl (by decide) (fun _ _ _ _ _ h => h) rfl (rd_len Try.underlying26 rfl) ?_
    refine any_take (i := 9) (by kernel_rfl) rfl rfl (by decide) (fun _ _ _ _ _ h => h) rfl (rd_ge rfl rfl) ?_
    refine any_nil (by kernel_rfl) ?_
    refine St.keep (β' := [(0, _), (18, _)]) ⟨rfl, rfl, trivial⟩ ?_
    refine St.then_n ?_
    first | refine do_condp rfl (fun h18 => ?_) (fun h18 => ?_) | refine do_cond rfl (fun h18 => ?_) (fun h18 => ?_)
    · have hn : B[s.at_]? = none := List.getElem?_eq_none (by omega)
      refine do_seq ?_
      refine do_region ?_
      refine run_read rfl (by decide) (fun _ => nofun) (rd_move rfl) ?_
      refine run_read rfl (by decide) (fun _ => nofun) (rd_nilCheck rfl) ?_
      first | refine run_read rfl (by decide) (fun _ => nofun) (rd_fieldAddr0 rfl fld194_2) ?_ | refine run_read rfl (by decide) (fun _ => nofun) (rd_fieldAddr rfl fld194_2) ?_
      refine run_store rfl rfl rfl (by repeat (first | with_reducible exact Sel.head | apply Sel.tail)) row25 rfl rfl (by simp only [List.set_cons_succ, List.set_cons_zero]; exact rfl) ?_
      refine run_nil ?_
      refine St.keep (β' := []) trivial ?_
      refine St.then_n ?_
      refine do_seq ?_
      refine do_region ?_
      refine run_read rfl (by decide) (fun _ => nofun) (rd_assign rfl) ?_
      refine run_nil ?_
      refine St.then_n ?_
      refine do_ret ?_
      refine St.then_r ?_
      refine do_ret1 Try.results94 (res_tmp rfl) ?_
      intro w hw
      rw [rT_none hy hn]
      exact ⟨(), trivial, rfl, Holds.rd_shut (A := A) (cap := cap) ⟨s.at_, 10⟩ (by repeat (first | exact Pick.nil | apply Pick.cons (by repeat (first | with_reducible exact Sel.head | apply Sel.tail)))) hw⟩
    · have hx := List.getElem?_eq_getElem (l := B) (i := s.at_) (by omega)
      generalize B[s.at_]'_ = c at hx
      have hcell : (B.map bcell)[s.at_]? = some (bcell c) := by rw [List.getElem?_map, hx]; rfl
      refine St.sel (P := bytesO (.slice A B.length cap) B) (by repeat (first | with_reducible exact Sel.head | apply Sel.tail)) (St.bytes_some (by omega) (fun g c1 hg _ _ => ?_))
      cases hg
      refine do_skip ?_
      refine St.then_n ?_
      refine do_seq ?_
      refine do_draw [[1, 2, 3, 8, 9, 10], [2, 3, 8, 9, 10], [3, 8, 9, 10], [8, 9, 10], [5, 6, 7, 8, 9, 10], [6, 7, 8, 9, 10], [7, 8, 9, 10], [8, 9, 10], [9, 10], [10], []] (by kernel_rfl) rfl ?_
      refine any_take (i := 0) (by kernel_rfl) rfl rfl (by decide) (fun _ _ _ _ _ h => h) rfl (rd_move rfl) ?_
      refine any_take (i := 1) (by kernel_rfl) rfl rfl (by decide) (fun _ _ _ _ _ h => h) rfl (rd_nilCheck rfl) ?_
      first | refine any_take (i := 2) (by kernel_rfl) rfl rfl (by decide) (fun _ _ _ _ _ h => h) rfl (rd_fieldAddr0 rfl fld194_0) ?_ | refine any_take (i := 2) (by kernel_rfl) rfl rfl (by decide) (fun _ _ _ _ _ h => h) rfl (rd_fieldAddr rfl fld194_0) ?_
      refine any_take (i := 3) (by kernel_rfl) rfl rfl (by decide) (fun _ _ _ _ _ h => h) rfl (rd_load rfl row26 (cells_pts1 (by repeat (first | with_reducible exact Sel.head | apply Sel.tail)) rfl)) ?_
      refine any_take (i := 4) (by kernel_rfl) rfl rfl (by decide) (fun _ _ _ _ _ h => h) rfl (rd_move rfl) ?_
      refine any_take (i := 5) (by kernel_rfl) rfl rfl (by decide) (fun _ _ _ _ _ h => h) rfl (rd_nilCheck rfl) ?_
      first | refine any_take (i := 6) (by kernel_rfl) rfl rfl (by decide) (fun _ _ _ _ _ h => h) rfl (rd_fieldAddr0 rfl fld194_1) ?_ | refine any_take (i := 6) (by kernel_rfl) rfl rfl (by decide) (fun _ _ _ _ _ h => h) rfl (rd_fieldAddr rfl fld194_1) ?_
      refine any_take (i := 7) (by kernel_rfl) rfl rfl (by decide) (fun _ _ _ _ _ h => h) rfl (rd_load rfl row3 (cells_pts1 (by repeat (first | with_reducible exact Sel.head | apply Sel.tail)) rfl)) ?_
      refine any_take (i := 8) (by kernel_rfl) rfl rfl (by decide) (fun _ _ _ _ _ h => h) rfl ((rd_indexAddr Try.underlying26 ei5 rfl rfl (by omega) (by omega)).eq (show _ = Value.pointer (some ⟨g, 0 + s.at_, none⟩) by simp)) ?_
      refine any_take (i := 9) (by kernel_rfl) rfl rfl (by decide) (fun _ _ _ _ _ h => h) rfl (rd_load rfl row5 (Vw.cells1 (X := bytesO (.slice (some ⟨g, 0, none⟩) B.length cap) B) vw_bytes (by repeat (first | with_reducible exact Sel.head | apply Sel.tail)) (by omega) hcell)) ?_
      refine any_take (i := 10) (by kernel_rfl) rfl rfl (by decide) (fun _ _ _ _ _ h => h) rfl (rd_assign rfl) ?_
      refine any_nil (by kernel_rfl) ?_
      refine St.keep (β' := [(0, _), (3, _)]) ⟨rfl, rfl, trivial⟩ ?_
      refine St.then_n ?_
      refine do_seq ?_
      refine do_seq ?_
      refine do_region ?_
      refine run_read rfl (by decide) (fun _ => nofun) (rd_move rfl) ?_
      refine run_read rfl (by decide) (fun _ => nofun) (rd_gt rfl rfl) ?_
      refine run_nil ?_
      refine St.then_n ?_
      first | refine do_condp rfl (fun h33 => ?_) (fun h33 => ?_) | refine do_cond rfl (fun h33 => ?_) (fun h33 => ?_)
      · refine do_seq ?_
        refine do_region ?_
        refine run_read rfl (by decide) (fun _ => nofun) (rd_move rfl) ?_
        refine run_read rfl (by decide) (fun _ => nofun) (rd_nilCheck rfl) ?_
        first | refine run_read rfl (by decide) (fun _ => nofun) (rd_fieldAddr0 rfl fld194_2) ?_ | refine run_read rfl (by decide) (fun _ => nofun) (rd_fieldAddr rfl fld194_2) ?_
        refine run_store rfl rfl rfl (by repeat (first | with_reducible exact Sel.head | apply Sel.tail)) row25 rfl rfl (by simp only [List.set_cons_succ, List.set_cons_zero]; exact rfl) ?_
        refine run_nil ?_
        refine St.keep (β' := []) trivial ?_
        refine St.then_n ?_
        refine do_seq ?_
        refine do_region ?_
        refine run_read rfl (by decide) (fun _ => nofun) (rd_assign rfl) ?_
        refine run_nil ?_
        refine St.then_n ?_
        refine do_ret ?_
        refine St.then_r ?_
        refine do_ret1 Try.results94 (res_tmp rfl) ?_
        intro w hw
        rw [rT_big hy hx (by omega)]
        exact ⟨(), trivial, rfl, Holds.rd_shut (A := some ⟨g, 0, none⟩) (cap := cap) ⟨s.at_, 11⟩ (by repeat (first | exact Pick.nil | apply Pick.cons (by repeat (first | with_reducible exact Sel.head | apply Sel.tail)))) hw⟩
      · refine do_skip ?_
        refine St.then_n ?_
        refine do_seq ?_
        refine do_region ?_
        refine run_read rfl (by decide) (fun _ => nofun) (rd_move rfl) ?_
        refine run_read rfl (by decide) (fun _ => nofun) (rd_nilCheck rfl) ?_
        first | refine run_read rfl (by decide) (fun _ => nofun) (rd_fieldAddr0 rfl fld194_1) ?_ | refine run_read rfl (by decide) (fun _ => nofun) (rd_fieldAddr rfl fld194_1) ?_
        refine run_read rfl (by decide) (fun _ => nofun) (rd_load rfl row3 (cells_pts1 (by repeat (first | with_reducible exact Sel.head | apply Sel.tail)) rfl)) ?_
        first | refine run_read rfl (by decide) (fun _ => nofun) ((rd_add rfl rfl).eq (congrArg (Value.int .i64) (IntWalk.i64_in _ (by omega)))) ?_ | refine run_read rfl (by decide) (fun _ => nofun) (rd_add rfl rfl) ?_
        refine run_read rfl (by decide) (fun _ => nofun) (rd_nilCheck rfl) ?_
        first | refine run_read rfl (by decide) (fun _ => nofun) (rd_fieldAddr0 rfl fld194_1) ?_ | refine run_read rfl (by decide) (fun _ => nofun) (rd_fieldAddr rfl fld194_1) ?_
        refine run_store rfl rfl rfl (by repeat (first | with_reducible exact Sel.head | apply Sel.tail)) row3 rfl rfl (by simp only [List.set_cons_succ, List.set_cons_zero]; exact rfl) ?_
        refine run_nil ?_
        refine St.keep (β' := [(3, _)]) ⟨rfl, trivial⟩ ?_
        refine St.then_n ?_
        refine do_seq ?_
        refine do_region ?_
        refine run_read rfl (by decide) (fun _ => nofun) (rd_move rfl) ?_
        refine run_read rfl (by decide) (fun _ => nofun) (rd_eq rfl rfl) ?_
        refine run_read rfl (by decide) (fun _ => nofun) (rd_assign rfl) ?_
        refine run_nil ?_
        refine St.then_n ?_
        refine do_ret ?_
        refine do_ret1 Try.results94 (res_tmp rfl) ?_
        intro w hw
        rw [rT_good hy hx (by omega), ← hy]
        exact ⟨(), trivial, by simp; omega, Holds.rd_shut (A := some ⟨g, 0, none⟩) (cap := cap) ⟨s.at_ + 1, s.why⟩ (.cons .head (.cons (by repeat (first | with_reducible exact Sel.head | apply Sel.tail)) .nil)) hw⟩
  · rw [rT_err hy]
    refine do_seq ?_
    refine do_region ?_
    refine run_read rfl (by decide) (fun _ => nofun) (rd_assign rfl) ?_
    refine run_nil ?_
    refine St.then_n ?_
    refine do_seq ?_
    refine do_seq ?_
    refine do_region ?_
    refine run_read rfl (by decide) (fun _ => nofun) (rd_move rfl) ?_
    refine run_read rfl (by decide) (fun _ => nofun) (rd_nilCheck rfl) ?_
    first | refine run_read rfl (by decide) (fun _ => nofun) (rd_fieldAddr0 rfl fld194_2) ?_ | refine run_read rfl (by decide) (fun _ => nofun) (rd_fieldAddr rfl fld194_2) ?_
    refine run_read rfl (by decide) (fun _ => nofun) (rd_load rfl row25 (cells_pts1 (by repeat (first | with_reducible exact Sel.head | apply Sel.tail)) rfl)) ?_
    refine run_read rfl (by decide) (fun _ => nofun) (rd_ne rfl rfl) ?_
    refine run_nil ?_
    refine St.keep (β' := [(0, _), (8, _)]) ⟨rfl, rfl, trivial⟩ ?_
    refine St.then_n ?_
    refine do_condp rfl (fun h8 => ?_) (fun h8 => absurd (by omega) h8)
    refine do_seq ?_
    refine do_region ?_
    refine run_read rfl (by decide) (fun _ => nofun) (rd_assign rfl) ?_
    refine run_nil ?_
    refine St.then_n ?_
    refine do_ret ?_
    refine St.then_r ?_
    refine do_ret1 Try.results94 (res_tmp rfl) ?_
    intro w hw
    exact ⟨(), trivial, rfl, Holds.rd_shut (A := A) (cap := cap) s (by repeat (first | exact Pick.nil | apply Pick.cons (by repeat (first | with_reducible exact Sel.head | apply Sel.tail)))) hw⟩
theorem rU_why (h : (rU B s).2.why = 0) : s.why = 0 := by
  by_cases hy : s.why = 0
  · exact hy
  · rw [rU_err hy] at h; exact h
/-- A count that goes wrong: where its number does. -/
theorem rN_bad' {most : Nat} (h : (rU B s).2.why ≠ 0) : rN most B s = (0, ⟨s.at_, (rU B s).2.why⟩) := by
  by_cases hy : s.why = 0
  · exact rN_bad hy h
  · rw [rN_err hy]
    have : (rU B s).2.why = s.why := by rw [rU_err hy]
    rw [this]
theorem refRdBytes_spec (F : HP) (hs : s.at_ ≤ B.length) (hl : B.length ≤ 140737488355328) :
    Spec Try.prog 89 [.pointer (some ⟨r, 0, none⟩)] [rdO 194 r B s] F (fun _ : Value => True) (fun v => v) (fun v => [bytesO v (rB B s).1, rdO 194 r B (rB B s).2]) := by
  intro ω w hh
  refine enter Try.func89 rfl Try.ntmps89 rfl hh ?_
  simp only [List.cons_append, List.nil_append, argsB]
  have hlt := rU_lt B s
  have hok := rU_ok hs
  have hwy := @rU_why B s
  have kb := @rN_bad' B s 65536
  have kg := @rN_big B s 65536
  have ks := @rN_short B s 65536
  have ko := @rN_good B s 65536
  obtain ⟨⟨n, s1⟩, hr⟩ : ∃ q, rU B s = q := ⟨_, rfl⟩
  rw [hr] at hlt hok hwy kb kg ks ko
  dsimp only at hlt hok hwy kb kg ks ko
  by_cases h1 : s1.why = 0
  · by_cases h2 : 65536 < n
    · have e := kg (hwy h1) h1 h2
      have e2 : rB B s = ([], ⟨s.at_, 3⟩) := by rw [rB_err (by rw [e]; simp), e]
      rw [e2]
      refine do_seq ?_
      refine do_region ?_
      refine run_read rfl (by decide) (fun _ => nofun) (rd_assign rfl) ?_
      refine run_nil ?_
      refine St.then_n ?_
      refine do_seq ?_
      refine do_region ?_
      refine St.sel (P := rdO 194 r B s) (by repeat (first | with_reducible exact Sel.head | apply Sel.tail)) (St.rd_open fun A cap => ?_)
      refine run_read rfl (by decide) (fun _ => nofun) (rd_move rfl) ?_
      refine run_read rfl (by decide) (fun _ => nofun) (rd_nilCheck rfl) ?_
      first | refine run_read rfl (by decide) (fun _ => nofun) (rd_fieldAddr0 rfl fld194_1) ?_ | refine run_read rfl (by decide) (fun _ => nofun) (rd_fieldAddr rfl fld194_1) ?_
      refine run_read rfl (by decide) (fun _ => nofun) (rd_load rfl row3 (cells_pts1 (by repeat (first | with_reducible exact Sel.head | apply Sel.tail)) rfl)) ?_
      refine run_read rfl (by decide) (fun _ => nofun) (rd_assign rfl) ?_
      refine run_nil ?_
      refine St.keep (β' := [(0, _), (3, _)]) ⟨rfl, rfl, trivial⟩ ?_
      refine St.then_n ?_
      refine do_seq ?_
      refine do_region ?_
      refine St.rd_shut (A := A) (cap := cap) s (by repeat (first | exact Pick.nil | apply Pick.cons (by repeat (first | with_reducible exact Sel.head | apply Sel.tail)))) ?_
      refine run_read rfl (by decide) (fun _ => nofun) (rd_move rfl) ?_
      refine run_spec rfl (by decide) (by kernel_rfl) rfl (by repeat (first | exact Pick.nil | apply Pick.cons (by repeat (first | with_reducible exact Sel.head | apply Sel.tail)))) (refRdUint_spec _ hs hl) ?_
      rintro ⟨⟩ -
      rw [hr]
      dsimp only
      try simp only [List.cons_append, List.nil_append]
      refine run_read rfl (by decide) (fun _ => nofun) (rd_assign rfl) ?_
      refine run_nil ?_
      refine St.then_n ?_
      refine do_seq ?_
      refine do_seq ?_
      refine do_region ?_
      refine St.sel (P := rdO 194 r B s1) (by repeat (first | with_reducible exact Sel.head | apply Sel.tail)) (St.rd_open fun A cap => ?_)
      refine run_read rfl (by decide) (fun _ => nofun) (rd_move rfl) ?_
      refine run_read rfl (by decide) (fun _ => nofun) (rd_nilCheck rfl) ?_
      first | refine run_read rfl (by decide) (fun _ => nofun) (rd_fieldAddr0 rfl fld194_2) ?_ | refine run_read rfl (by decide) (fun _ => nofun) (rd_fieldAddr rfl fld194_2) ?_
      refine run_read rfl (by decide) (fun _ => nofun) (rd_load rfl row25 (cells_pts1 (by repeat (first | with_reducible exact Sel.head | apply Sel.tail)) rfl)) ?_
      refine run_read rfl (by decide) (fun _ => nofun) ((rd_eq rfl rfl).eq (show _ = Value.bool true by simp; omega)) ?_
      refine run_read rfl (by decide) (fun _ => nofun) (rd_move rfl) ?_
      first | (refine run_skip rfl rfl ?_) | (refine run_read rfl (by decide) (fun _ => nofun) (rd_move rfl) ?_)
      first | (refine run_skip rfl rfl ?_) | (refine run_read rfl (by decide) (fun _ => nofun) (rd_gt rfl rfl) ?_)
      first | refine run_read rfl (by decide) (fun _ => nofun) (rd_pick_t rfl rfl) ?_ | refine run_read rfl (by decide) (fun _ => nofun) (rd_pick_f rfl rfl) ?_
      refine run_nil ?_
      refine St.keep (β' := [(0, _), (3, _), (4, _), (20, _)]) ⟨rfl, rfl, rfl, rfl, trivial⟩ ?_
      refine St.then_n ?_
      refine do_condp rfl (fun h20 => ?_) (fun h20 => absurd (by omega) h20)
      refine do_region ?_
      refine run_read rfl (by decide) (fun _ => nofun) (rd_move rfl) ?_
      refine run_read rfl (by decide) (fun _ => nofun) (rd_nilCheck rfl) ?_
      first | refine run_read rfl (by decide) (fun _ => nofun) (rd_fieldAddr0 rfl fld194_2) ?_ | refine run_read rfl (by decide) (fun _ => nofun) (rd_fieldAddr rfl fld194_2) ?_
      refine run_store rfl rfl rfl (by repeat (first | with_reducible exact Sel.head | apply Sel.tail)) row25 rfl rfl (by simp only [List.set_cons_succ, List.set_cons_zero]; exact rfl) ?_
      refine run_nil ?_
      refine St.keep (β' := [(0, _), (3, _), (4, _)]) ⟨rfl, rfl, rfl, trivial⟩ ?_
      refine St.then_n ?_
      refine do_seq ?_
      refine do_seq ?_
      refine do_draw [[1, 2, 3, 4, 5, 6, 7, 8, 9, 10, 11, 12, 13, 14, 15, 16, 17, 18, 19], [2, 3, 4, 5, 6, 7, 8, 9, 10, 11, 12, 13, 14, 15, 16, 17, 18, 19], [3, 4, 5, 6, 7, 8, 9, 10, 11, 12, 13, 14, 15, 16, 17, 18, 19], [4, 5, 6, 7, 8, 9, 10, 11, 12, 13, 14, 15, 16, 17, 18, 19], [5, 6, 7, 8, 9, 10, 11, 12, 13, 14, 15, 16, 17, 18, 19], [6, 7, 8, 9, 10, 11, 12, 13, 14, 15, 16, 17, 18, 19], [7, 8, 9, 10, 15, 16, 18, 19], [8, 9, 10, 15, 16, 18, 19], [9, 10, 15, 16, 18, 19], [10, 15, 16, 18, 19], [15, 16, 18, 19], [12, 13, 14, 15, 16, 18, 19], [13, 14, 15, 16, 18, 19], [14, 15, 16, 18, 19], [15, 16, 18, 19], [16, 18, 19], [18, 19], [18, 19], [19], []] (by kernel_rfl) rfl ?_
      refine any_take (i := 0) (by kernel_rfl) rfl rfl (by decide) (fun _ _ _ _ _ h => h) rfl (rd_move rfl) ?_
      refine any_take (i := 1) (by kernel_rfl) rfl rfl (by decide) (fun _ _ _ _ _ h => h) rfl (rd_nilCheck rfl) ?_
      first | refine any_take (i := 2) (by kernel_rfl) rfl rfl (by decide) (fun _ _ _ _ _ h => h) rfl (rd_fieldAddr0 rfl fld194_2) ?_ | refine any_take (i := 2) (by kernel_rfl) rfl rfl (by decide) (fun _ _ _ _ _ h => h) rfl (rd_fieldAddr rfl fld194_2) ?_
      refine any_take (i := 3) (by kernel_rfl) rfl rfl (by decide) (fun _ _ _ _ _ h => h) rfl (rd_load rfl row25 (cells_pts1 (by repeat (first | with_reducible exact Sel.head | apply Sel.tail)) rfl)) ?_
      refine any_take (i := 4) (by kernel_rfl) rfl rfl (by decide) (fun _ _ _ _ _ h => h) rfl ((rd_eq rfl rfl).eq (show _ = Value.bool false by simp)) ?_
      refine any_take (i := 5) (by kernel_rfl) rfl rfl (by decide) (fun _ _ _ _ _ h => h) rfl (rd_move rfl) ?_
      first | refine any_skip (i := 6) (by kernel_rfl) rfl rfl (by decide) (fun _ _ _ _ _ h => h) rfl ?_ | refine any_take (i := 6) (by kernel_rfl) rfl rfl (by decide) (fun _ _ _ _ _ h => h) rfl (rd_move rfl) ?_
      first | refine any_skip (i := 7) (by kernel_rfl) rfl rfl (by decide) (fun _ _ _ _ _ h => h) rfl ?_ | refine any_take (i := 7) (by kernel_rfl) rfl rfl (by decide) (fun _ _ _ _ _ h => h) rfl (rd_nilCheck rfl) ?_
      first | refine any_skip (i := 8) (by kernel_rfl) rfl rfl (by decide) (fun _ _ _ _ _ h => h) rfl ?_ | refine any_take (i := 8) (by kernel_rfl) rfl rfl (by decide) (fun _ _ _ _ _ h => h) rfl (rd_fieldAddr0 rfl fld194_0) ?_ | refine any_take (i := 8) (by kernel_rfl) rfl rfl (by decide) (fun _ _ _ _ _ h => h) rfl (rd_fieldAddr rfl fld194_0) ?_
      first | refine any_skip (i := 9) (by kernel_rfl) rfl rfl (by decide) (fun _ _ _ _ _ h => h) rfl ?_ | refine any_take (i := 9) (by kernel_rfl) rfl rfl (by decide) (fun _ _ _ _ _ h => h) rfl (rd_load rfl row26 (cells_pts1 (by repeat (first | with_reducible exact Sel.head | apply Sel.tail)) rfl)) ?_
      first | refine any_skip (i := 10) (by kernel_rfl) rfl rfl (by decide) (fun _ _ _ _ _ h => h) rfl ?_ | refine any_take (i := 10) (by kernel_rfl) rfl rfl (by decide) (fun _ _ _ _ _ h => h) rfl (rd_len Try.underlying26 rfl) ?_
      first | refine any_skip (i := 11) (by kernel_rfl) rfl rfl (by decide) (fun _ _ _ _ _ h => h) rfl ?_ | refine any_take (i := 11) (by kernel_rfl) rfl rfl (by decide) (fun _ _ _ _ _ h => h) rfl (rd_move rfl) ?_
      first | refine any_skip (i := 12) (by kernel_rfl) rfl rfl (by decide) (fun _ _ _ _ _ h => h) rfl ?_ | refine any_take (i := 12) (by kernel_rfl) rfl rfl (by decide) (fun _ _ _ _ _ h => h) rfl (rd_nilCheck rfl) ?_
      first | refine any_skip (i := 13) (by kernel_rfl) rfl rfl (by decide) (fun _ _ _ _ _ h => h) rfl ?_ | refine any_take (i := 13) (by kernel_rfl) rfl rfl (by decide) (fun _ _ _ _ _ h => h) rfl (rd_fieldAddr0 rfl fld194_1) ?_ | refine any_take (i := 13) (by kernel_rfl) rfl rfl (by decide) (fun _ _ _ _ _ h => h) rfl (rd_fieldAddr rfl fld194_1) ?_
      first | refine any_skip (i := 14) (by kernel_rfl) rfl rfl (by decide) (fun _ _ _ _ _ h => h) rfl ?_ | refine any_take (i := 14) (by kernel_rfl) rfl rfl (by decide) (fun _ _ _ _ _ h => h) rfl (rd_load rfl row3 (cells_pts1 (by repeat (first | with_reducible exact Sel.head | apply Sel.tail)) rfl)) ?_
      first | refine any_skip (i := 15) (by kernel_rfl) rfl rfl (by decide) (fun _ _ _ _ _ h => h) rfl ?_ | refine any_take (i := 15) (by kernel_rfl) rfl rfl (by decide) (fun _ _ _ _ _ h => h) rfl ((rd_sub rfl rfl).eq (congrArg (Value.int .i64) (IntWalk.i64_in _ (by omega)))) ?_ | refine any_take (i := 15) (by kernel_rfl) rfl rfl (by decide) (fun _ _ _ _ _ h => h) rfl (rd_sub rfl rfl) ?_
      first | refine any_skip (i := 16) (by kernel_rfl) rfl rfl (by decide) (fun _ _ _ _ _ h => h) rfl ?_ | refine any_take (i := 16) (by kernel_rfl) rfl rfl (by decide) (fun _ _ _ _ _ h => h) rfl ((rd_conv Try.underlying3 Try.underlying183 rfl).eq (congrArg (Value.int .u64) (IntWalk.u64_in _ (by omega)))) ?_ | refine any_take (i := 16) (by kernel_rfl) rfl rfl (by decide) (fun _ _ _ _ _ h => h) rfl (rd_conv Try.underlying3 Try.underlying183 rfl) ?_
      first | refine any_skip (i := 17) (by kernel_rfl) rfl rfl (by decide) (fun _ _ _ _ _ h => h) rfl ?_ | refine any_take (i := 17) (by kernel_rfl) rfl rfl (by decide) (fun _ _ _ _ _ h => h) rfl (rd_move rfl) ?_
      first | refine any_skip (i := 18) (by kernel_rfl) rfl rfl (by decide) (fun _ _ _ _ _ h => h) rfl ?_ | refine any_take (i := 18) (by kernel_rfl) rfl rfl (by decide) (fun _ _ _ _ _ h => h) rfl (rd_lt rfl rfl) ?_
      first | refine any_take (i := 19) (by kernel_rfl) rfl rfl (by decide) (fun _ _ _ _ _ h => h) rfl (rd_pick_t rfl rfl) ?_ | refine any_take (i := 19) (by kernel_rfl) rfl rfl (by decide) (fun _ _ _ _ _ h => h) rfl (rd_pick_f rfl rfl) ?_
      refine any_nil (by kernel_rfl) ?_
      refine St.keep (β' := [(0, _), (3, _), (4, _), (43, _)]) ⟨rfl, rfl, rfl, rfl, trivial⟩ ?_
      refine St.then_n ?_
      refine do_cond_f rfl ?_
      refine do_skip ?_
      refine St.then_n ?_
      refine do_seq ?_
      refine do_seq ?_
      refine do_region ?_
      refine run_read rfl (by decide) (fun _ => nofun) (rd_move rfl) ?_
      refine run_read rfl (by decide) (fun _ => nofun) (rd_nilCheck rfl) ?_
      first | refine run_read rfl (by decide) (fun _ => nofun) (rd_fieldAddr0 rfl fld194_2) ?_ | refine run_read rfl (by decide) (fun _ => nofun) (rd_fieldAddr rfl fld194_2) ?_
      refine run_read rfl (by decide) (fun _ => nofun) (rd_load rfl row25 (cells_pts1 (by repeat (first | with_reducible exact Sel.head | apply Sel.tail)) rfl)) ?_
      refine run_read rfl (by decide) (fun _ => nofun) (rd_ne rfl rfl) ?_
      refine run_nil ?_
      refine St.keep (β' := [(0, _), (3, _), (4, _), (51, _)]) ⟨rfl, rfl, rfl, rfl, trivial⟩ ?_
      refine St.then_n ?_
      refine do_condp rfl (fun h51 => ?_) (fun h51 => absurd (by omega) h51)
      refine do_seq ?_
      refine do_region ?_
      refine run_read rfl (by decide) (fun _ => nofun) (rd_move rfl) ?_
      refine run_read rfl (by decide) (fun _ => nofun) (rd_move rfl) ?_
      refine run_read rfl (by decide) (fun _ => nofun) (rd_nilCheck rfl) ?_
      first | refine run_read rfl (by decide) (fun _ => nofun) (rd_fieldAddr0 rfl fld194_1) ?_ | refine run_read rfl (by decide) (fun _ => nofun) (rd_fieldAddr rfl fld194_1) ?_
      refine run_store rfl rfl rfl (by repeat (first | with_reducible exact Sel.head | apply Sel.tail)) row3 rfl rfl (by simp only [List.set_cons_succ, List.set_cons_zero]; exact rfl) ?_
      refine run_nil ?_
      refine St.keep (β' := []) trivial ?_
      refine St.then_n ?_
      refine do_seq ?_
      refine do_region ?_
      refine run_read rfl (by decide) (fun _ => nofun) (rd_assign rfl) ?_
      refine run_nil ?_
      refine St.then_n ?_
      refine do_ret ?_
      refine St.then_r ?_
      refine do_ret1 Try.results89 (res_tmp rfl) ?_
      intro w hw
      exact ⟨_, trivial, rfl, Holds.own_nil (Holds.rd_shut (A := A) (cap := cap) ⟨s.at_, 3⟩ (by repeat (first | exact Pick.nil | apply Pick.cons (by repeat (first | with_reducible exact Sel.head | apply Sel.tail)))) hw)⟩
    · by_cases h3 : B.length - s1.at_ < n
      · have e := ks (hwy h1) h1 h2 h3
        have e2 : rB B s = ([], ⟨s.at_, 10⟩) := by rw [rB_err (by rw [e]; simp), e]
        rw [e2]
        refine do_seq ?_
        refine do_region ?_
        refine run_read rfl (by decide) (fun _ => nofun) (rd_assign rfl) ?_
        refine run_nil ?_
        refine St.then_n ?_
        refine do_seq ?_
        refine do_region ?_
        refine St.sel (P := rdO 194 r B s) (by repeat (first | with_reducible exact Sel.head | apply Sel.tail)) (St.rd_open fun A cap => ?_)
        refine run_read rfl (by decide) (fun _ => nofun) (rd_move rfl) ?_
        refine run_read rfl (by decide) (fun _ => nofun) (rd_nilCheck rfl) ?_
        first | refine run_read rfl (by decide) (fun _ => nofun) (rd_fieldAddr0 rfl fld194_1) ?_ | refine run_read rfl (by decide) (fun _ => nofun) (rd_fieldAddr rfl fld194_1) ?_
        refine run_read rfl (by decide) (fun _ => nofun) (rd_load rfl row3 (cells_pts1 (by repeat (first | with_reducible exact Sel.head | apply Sel.tail)) rfl)) ?_
        refine run_read rfl (by decide) (fun _ => nofun) (rd_assign rfl) ?_
        refine run_nil ?_
        refine St.keep (β' := [(0, _), (3, _)]) ⟨rfl, rfl, trivial⟩ ?_
        refine St.then_n ?_
        refine do_seq ?_
        refine do_region ?_
        refine St.rd_shut (A := A) (cap := cap) s (by repeat (first | exact Pick.nil | apply Pick.cons (by repeat (first | with_reducible exact Sel.head | apply Sel.tail)))) ?_
        refine run_read rfl (by decide) (fun _ => nofun) (rd_move rfl) ?_
        refine run_spec rfl (by decide) (by kernel_rfl) rfl (by repeat (first | exact Pick.nil | apply Pick.cons (by repeat (first | with_reducible exact Sel.head | apply Sel.tail)))) (refRdUint_spec _ hs hl) ?_
        rintro ⟨⟩ -
        rw [hr]
        dsimp only
        try simp only [List.cons_append, List.nil_append]
        refine run_read rfl (by decide) (fun _ => nofun) (rd_assign rfl) ?_
        refine run_nil ?_
        refine St.then_n ?_
        refine do_seq ?_
        refine do_seq ?_
        refine do_region ?_
        refine St.sel (P := rdO 194 r B s1) (by repeat (first | with_reducible exact Sel.head | apply Sel.tail)) (St.rd_open fun A cap => ?_)
        refine run_read rfl (by decide) (fun _ => nofun) (rd_move rfl) ?_
        refine run_read rfl (by decide) (fun _ => nofun) (rd_nilCheck rfl) ?_
        first | refine run_read rfl (by decide) (fun _ => nofun) (rd_fieldAddr0 rfl fld194_2) ?_ | refine run_read rfl (by decide) (fun _ => nofun) (rd_fieldAddr rfl fld194_2) ?_
        refine run_read rfl (by decide) (fun _ => nofun) (rd_load rfl row25 (cells_pts1 (by repeat (first | with_reducible exact Sel.head | apply Sel.tail)) rfl)) ?_
        refine run_read rfl (by decide) (fun _ => nofun) ((rd_eq rfl rfl).eq (show _ = Value.bool true by simp; omega)) ?_
        refine run_read rfl (by decide) (fun _ => nofun) (rd_move rfl) ?_
        first | (refine run_skip rfl rfl ?_) | (refine run_read rfl (by decide) (fun _ => nofun) (rd_move rfl) ?_)
        first | (refine run_skip rfl rfl ?_) | (refine run_read rfl (by decide) (fun _ => nofun) (rd_gt rfl rfl) ?_)
        first | refine run_read rfl (by decide) (fun _ => nofun) (rd_pick_t rfl rfl) ?_ | refine run_read rfl (by decide) (fun _ => nofun) (rd_pick_f rfl rfl) ?_
        refine run_nil ?_
        refine St.keep (β' := [(0, _), (3, _), (4, _), (20, _)]) ⟨rfl, rfl, rfl, rfl, trivial⟩ ?_
        refine St.then_n ?_
        refine do_condp rfl (fun h20 => absurd h20 (by omega)) (fun h20 => ?_)
        refine do_skip ?_
        refine St.then_n ?_
        refine do_seq ?_
        refine do_seq ?_
        refine do_draw [[1, 2, 3, 4, 5, 6, 7, 8, 9, 10, 11, 12, 13, 14, 15, 16, 17, 18, 19], [2, 3, 4, 5, 6, 7, 8, 9, 10, 11, 12, 13, 14, 15, 16, 17, 18, 19], [3, 4, 5, 6, 7, 8, 9, 10, 11, 12, 13, 14, 15, 16, 17, 18, 19], [4, 5, 6, 7, 8, 9, 10, 11, 12, 13, 14, 15, 16, 17, 18, 19], [5, 6, 7, 8, 9, 10, 11, 12, 13, 14, 15, 16, 17, 18, 19], [6, 7, 8, 9, 10, 11, 12, 13, 14, 15, 16, 17, 18, 19], [7, 8, 9, 10, 15, 16, 18, 19], [8, 9, 10, 15, 16, 18, 19], [9, 10, 15, 16, 18, 19], [10, 15, 16, 18, 19], [15, 16, 18, 19], [12, 13, 14, 15, 16, 18, 19], [13, 14, 15, 16, 18, 19], [14, 15, 16, 18, 19], [15, 16, 18, 19], [16, 18, 19], [18, 19], [18, 19], [19], []] (by kernel_rfl) rfl ?_
        refine any_take (i := 0) (by kernel_rfl) rfl rfl (by decide) (fun _ _ _ _ _ h => h) rfl (rd_move rfl) ?_
        refine any_take (i := 1) (by kernel_rfl) rfl rfl (by decide) (fun _ _ _ _ _ h => h) rfl (rd_nilCheck rfl) ?_
        first | refine any_take (i := 2) (by kernel_rfl) rfl rfl (by decide) (fun _ _ _ _ _ h => h) rfl (rd_fieldAddr0 rfl fld194_2) ?_ | refine any_take (i := 2) (by kernel_rfl) rfl rfl (by decide) (fun _ _ _ _ _ h => h) rfl (rd_fieldAddr rfl fld194_2) ?_
        refine any_take (i := 3) (by kernel_rfl) rfl rfl (by decide) (fun _ _ _ _ _ h => h) rfl (rd_load rfl row25 (cells_pts1 (by repeat (first | with_reducible exact Sel.head | apply Sel.tail)) rfl)) ?_
        refine any_take (i := 4) (by kernel_rfl) rfl rfl (by decide) (fun _ _ _ _ _ h => h) rfl ((rd_eq rfl rfl).eq (show _ = Value.bool true by simp; omega)) ?_
        refine any_take (i := 5) (by kernel_rfl) rfl rfl (by decide) (fun _ _ _ _ _ h => h) rfl (rd_move rfl) ?_
        first | refine any_skip (i := 6) (by kernel_rfl) rfl rfl (by decide) (fun _ _ _ _ _ h => h) rfl ?_ | refine any_take (i := 6) (by kernel_rfl) rfl rfl (by decide) (fun _ _ _ _ _ h => h) rfl (rd_move rfl) ?_
        first | refine any_skip (i := 7) (by kernel_rfl) rfl rfl (by decide) (fun _ _ _ _ _ h => h) rfl ?_ | refine any_take (i := 7) (by kernel_rfl) rfl rfl (by decide) (fun _ _ _ _ _ h => h) rfl (rd_nilCheck rfl) ?_
        first | refine any_skip (i := 8) (by kernel_rfl) rfl rfl (by decide) (fun _ _ _ _ _ h => h) rfl ?_ | refine any_take (i := 8) (by kernel_rfl) rfl rfl (by decide) (fun _ _ _ _ _ h => h) rfl (rd_fieldAddr0 rfl fld194_0) ?_ | refine any_take (i := 8) (by kernel_rfl) rfl rfl (by decide) (fun _ _ _ _ _ h => h) rfl (rd_fieldAddr rfl fld194_0) ?_
        first | refine any_skip (i := 9) (by kernel_rfl) rfl rfl (by decide) (fun _ _ _ _ _ h => h) rfl ?_ | refine any_take (i := 9) (by kernel_rfl) rfl rfl (by decide) (fun _ _ _ _ _ h => h) rfl (rd_load rfl row26 (cells_pts1 (by repeat (first | with_reducible exact Sel.head | apply Sel.tail)) rfl)) ?_
        first | refine any_skip (i := 10) (by kernel_rfl) rfl rfl (by decide) (fun _ _ _ _ _ h => h) rfl ?_ | refine any_take (i := 10) (by kernel_rfl) rfl rfl (by decide) (fun _ _ _ _ _ h => h) rfl (rd_len Try.underlying26 rfl) ?_
        first | refine any_skip (i := 11) (by kernel_rfl) rfl rfl (by decide) (fun _ _ _ _ _ h => h) rfl ?_ | refine any_take (i := 11) (by kernel_rfl) rfl rfl (by decide) (fun _ _ _ _ _ h => h) rfl (rd_move rfl) ?_
        first | refine any_skip (i := 12) (by kernel_rfl) rfl rfl (by decide) (fun _ _ _ _ _ h => h) rfl ?_ | refine any_take (i := 12) (by kernel_rfl) rfl rfl (by decide) (fun _ _ _ _ _ h => h) rfl (rd_nilCheck rfl) ?_
        first | refine any_skip (i := 13) (by kernel_rfl) rfl rfl (by decide) (fun _ _ _ _ _ h => h) rfl ?_ | refine any_take (i := 13) (by kernel_rfl) rfl rfl (by decide) (fun _ _ _ _ _ h => h) rfl (rd_fieldAddr0 rfl fld194_1) ?_ | refine any_take (i := 13) (by kernel_rfl) rfl rfl (by decide) (fun _ _ _ _ _ h => h) rfl (rd_fieldAddr rfl fld194_1) ?_
        first | refine any_skip (i := 14) (by kernel_rfl) rfl rfl (by decide) (fun _ _ _ _ _ h => h) rfl ?_ | refine any_take (i := 14) (by kernel_rfl) rfl rfl (by decide) (fun _ _ _ _ _ h => h) rfl (rd_load rfl row3 (cells_pts1 (by repeat (first | with_reducible exact Sel.head | apply Sel.tail)) rfl)) ?_
        first | refine any_skip (i := 15) (by kernel_rfl) rfl rfl (by decide) (fun _ _ _ _ _ h => h) rfl ?_ | refine any_take (i := 15) (by kernel_rfl) rfl rfl (by decide) (fun _ _ _ _ _ h => h) rfl ((rd_sub rfl rfl).eq (congrArg (Value.int .i64) (IntWalk.i64_in _ (by omega)))) ?_ | refine any_take (i := 15) (by kernel_rfl) rfl rfl (by decide) (fun _ _ _ _ _ h => h) rfl (rd_sub rfl rfl) ?_
        first | refine any_skip (i := 16) (by kernel_rfl) rfl rfl (by decide) (fun _ _ _ _ _ h => h) rfl ?_ | refine any_take (i := 16) (by kernel_rfl) rfl rfl (by decide) (fun _ _ _ _ _ h => h) rfl ((rd_conv Try.underlying3 Try.underlying183 rfl).eq (congrArg (Value.int .u64) (IntWalk.u64_in _ (by omega)))) ?_ | refine any_take (i := 16) (by kernel_rfl) rfl rfl (by decide) (fun _ _ _ _ _ h => h) rfl (rd_conv Try.underlying3 Try.underlying183 rfl) ?_
        first | refine any_skip (i := 17) (by kernel_rfl) rfl rfl (by decide) (fun _ _ _ _ _ h => h) rfl ?_ | refine any_take (i := 17) (by kernel_rfl) rfl rfl (by decide) (fun _ _ _ _ _ h => h) rfl (rd_move rfl) ?_
        first | refine any_skip (i := 18) (by kernel_rfl) rfl rfl (by decide) (fun _ _ _ _ _ h => h) rfl ?_ | refine any_take (i := 18) (by kernel_rfl) rfl rfl (by decide) (fun _ _ _ _ _ h => h) rfl (rd_lt rfl rfl) ?_
        first | refine any_take (i := 19) (by kernel_rfl) rfl rfl (by decide) (fun _ _ _ _ _ h => h) rfl (rd_pick_t rfl rfl) ?_ | refine any_take (i := 19) (by kernel_rfl) rfl rfl (by decide) (fun _ _ _ _ _ h => h) rfl (rd_pick_f rfl rfl) ?_
        refine any_nil (by kernel_rfl) ?_
        refine St.keep (β' := [(0, _), (3, _), (4, _), (43, _)]) ⟨rfl, rfl, rfl, rfl, trivial⟩ ?_
        refine St.then_n ?_
        refine do_condp rfl (fun h43 => ?_) (fun h43 => absurd (by omega) h43)
        refine do_region ?_
        refine run_read rfl (by decide) (fun _ => nofun) (rd_move rfl) ?_
        refine run_read rfl (by decide) (fun _ => nofun) (rd_nilCheck rfl) ?_
        first | refine run_read rfl (by decide) (fun _ => nofun) (rd_fieldAddr0 rfl fld194_2) ?_ | refine run_read rfl (by decide) (fun _ => nofun) (rd_fieldAddr rfl fld194_2) ?_
        refine run_store rfl rfl rfl (by repeat (first | with_reducible exact Sel.head | apply Sel.tail)) row25 rfl rfl (by simp only [List.set_cons_succ, List.set_cons_zero]; exact rfl) ?_
        refine run_nil ?_
        refine St.keep (β' := [(0, _), (3, _), (4, _)]) ⟨rfl, rfl, rfl, trivial⟩ ?_
        refine St.then_n ?_
        refine do_seq ?_
        refine do_seq ?_
        refine do_region ?_
        refine run_read rfl (by decide) (fun _ => nofun) (rd_move rfl) ?_
        refine run_read rfl (by decide) (fun _ => nofun) (rd_nilCheck rfl) ?_
        first | refine run_read rfl (by decide) (fun _ => nofun) (rd_fieldAddr0 rfl fld194_2) ?_ | refine run_read rfl (by decide) (fun _ => nofun) (rd_fieldAddr rfl fld194_2) ?_
        refine run_read rfl (by decide) (fun _ => nofun) (rd_load rfl row25 (cells_pts1 (by repeat (first | with_reducible exact Sel.head | apply Sel.tail)) rfl)) ?_
        refine run_read rfl (by decide) (fun _ => nofun) (rd_ne rfl rfl) ?_
        refine run_nil ?_
        refine St.keep (β' := [(0, _), (3, _), (4, _), (51, _)]) ⟨rfl, rfl, rfl, rfl, trivial⟩ ?_
        refine St.then_n ?_
        refine do_condp rfl (fun h51 => ?_) (fun h51 => absurd (by omega) h51)
        refine do_seq ?_
        refine do_region ?_
        refine run_read rfl (by decide) (fun _ => nofun) (rd_move rfl) ?_
        refine run_read rfl (by decide) (fun _ => nofun) (rd_move rfl) ?_
        refine run_read rfl (by decide) (fun _ => nofun) (rd_nilCheck rfl) ?_
        first | refine run_read rfl (by decide) (fun _ => nofun) (rd_fieldAddr0 rfl fld194_1) ?_ | refine run_read rfl (by decide) (fun _ => nofun) (rd_fieldAddr rfl fld194_1) ?_
        refine run_store rfl rfl rfl (by repeat (first | with_reducible exact Sel.head | apply Sel.tail)) row3 rfl rfl (by simp only [List.set_cons_succ, List.set_cons_zero]; exact rfl) ?_
        refine run_nil ?_
        refine St.keep (β' := []) trivial ?_
        refine St.then_n ?_
        refine do_seq ?_
        refine do_region ?_
        refine run_read rfl (by decide) (fun _ => nofun) (rd_assign rfl) ?_
        refine run_nil ?_
        refine St.then_n ?_
        refine do_ret ?_
        refine St.then_r ?_
        refine do_ret1 Try.results89 (res_tmp rfl) ?_
        intro w hw
        exact ⟨_, trivial, rfl, Holds.own_nil (Holds.rd_shut (A := A) (cap := cap) ⟨s.at_, 10⟩ (by repeat (first | exact Pick.nil | apply Pick.cons (by repeat (first | with_reducible exact Sel.head | apply Sel.tail)))) hw)⟩
      · have e := ko (hwy h1) h1 h2 h3
        have e2 : rB B s = ((B.drop s1.at_).take n, ⟨s1.at_ + n, s1.why⟩) := by rw [rB_good (by rw [e]; exact h1), e, h1]
        rw [e2]
        refine do_seq ?_
        refine do_region ?_
        refine run_read rfl (by decide) (fun _ => nofun) (rd_assign rfl) ?_
        refine run_nil ?_
        refine St.then_n ?_
        refine do_seq ?_
        refine do_region ?_
        refine St.sel (P := rdO 194 r B s) (by repeat (first | with_reducible exact Sel.head | apply Sel.tail)) (St.rd_open fun A cap => ?_)
        refine run_read rfl (by decide) (fun _ => nofun) (rd_move rfl) ?_
        refine run_read rfl (by decide) (fun _ => nofun) (rd_nilCheck rfl) ?_
        first | refine run_read rfl (by decide) (fun _ => nofun) (rd_fieldAddr0 rfl fld194_1) ?_ | refine run_read rfl (by decide) (fun _ => nofun) (rd_fieldAddr rfl fld194_1) ?_
        refine run_read rfl (by decide) (fun _ => nofun) (rd_load rfl row3 (cells_pts1 (by repeat (first | with_reducible exact Sel.head | apply Sel.tail)) rfl)) ?_
        refine run_read rfl (by decide) (fun _ => nofun) (rd_assign rfl) ?_
        refine run_nil ?_
        refine St.keep (β' := [(0, _), (3, _)]) ⟨rfl, rfl, trivial⟩ ?_
        refine St.then_n ?_
        refine do_seq ?_
        refine do_region ?_
        refine St.rd_shut (A := A) (cap := cap) s (by repeat (first | exact Pick.nil | apply Pick.cons (by repeat (first | with_reducible exact Sel.head | apply Sel.tail)))) ?_
        refine run_read rfl (by decide) (fun _ => nofun) (rd_move rfl) ?_
        refine run_spec rfl (by decide) (by kernel_rfl) rfl (by repeat (first | exact Pick.nil | apply Pick.cons (by repeat (first | with_reducible exact Sel.head | apply Sel.tail)))) (refRdUint_spec _ hs hl) ?_
        rintro ⟨⟩ -
        rw [hr]
        dsimp only
        try simp only [List.cons_append, List.nil_append]
        refine run_read rfl (by decide) (fun _ => nofun) (rd_assign rfl) ?_
        refine run_nil ?_
        refine St.then_n ?_
        refine do_seq ?_
        refine do_seq ?_
        refine do_region ?_
        refine St.sel (P := rdO 194 r B s1) (by repeat (first | with_reducible exact Sel.head | apply Sel.tail)) (St.rd_open fun A cap => ?_)
        refine St.vw vw_bytes (.tail .head) (fun A' c' hv hc1 hc2 _ => ?_)
        cases hv
        refine run_read rfl (by decide) (fun _ => nofun) (rd_move rfl) ?_
        refine run_read rfl (by decide) (fun _ => nofun) (rd_nilCheck rfl) ?_
        first | refine run_read rfl (by decide) (fun _ => nofun) (rd_fieldAddr0 rfl fld194_2) ?_ | refine run_read rfl (by decide) (fun _ => nofun) (rd_fieldAddr rfl fld194_2) ?_
        refine run_read rfl (by decide) (fun _ => nofun) (rd_load rfl row25 (cells_pts1 (by repeat (first | with_reducible exact Sel.head | apply Sel.tail)) rfl)) ?_
        refine run_read rfl (by decide) (fun _ => nofun) ((rd_eq rfl rfl).eq (show _ = Value.bool true by simp; omega)) ?_
        refine run_read rfl (by decide) (fun _ => nofun) (rd_move rfl) ?_
        first | (refine run_skip rfl rfl ?_) | (refine run_read rfl (by decide) (fun _ => nofun) (rd_move rfl) ?_)
        first | (refine run_skip rfl rfl ?_) | (refine run_read rfl (by decide) (fun _ => nofun) (rd_gt rfl rfl) ?_)
        first | refine run_read rfl (by decide) (fun _ => nofun) (rd_pick_t rfl rfl) ?_ | refine run_read rfl (by decide) (fun _ => nofun) (rd_pick_f rfl rfl) ?_
        refine run_nil ?_
        refine St.keep (β' := [(0, _), (3, _), (4, _), (20, _)]) ⟨rfl, rfl, rfl, rfl, trivial⟩ ?_
        refine St.then_n ?_
        refine do_condp rfl (fun h20 => absurd h20 (by omega)) (fun h20 => ?_)
        refine do_skip ?_
        refine St.then_n ?_
        refine do_seq ?_
        refine do_seq ?_
        refine do_draw [[1, 2, 3, 4, 5, 6, 7, 8, 9, 10, 11, 12, 13, 14, 15, 16, 17, 18, 19], [2, 3, 4, 5, 6, 7, 8, 9, 10, 11, 12, 13, 14, 15, 16, 17, 18, 19], [3, 4, 5, 6, 7, 8, 9, 10, 11, 12, 13, 14, 15, 16, 17, 18, 19], [4, 5, 6, 7, 8, 9, 10, 11, 12, 13, 14, 15, 16, 17, 18, 19], [5, 6, 7, 8, 9, 10, 11, 12, 13, 14, 15, 16, 17, 18, 19], [6, 7, 8, 9, 10, 11, 12, 13, 14, 15, 16, 17, 18, 19], [7, 8, 9, 10, 15, 16, 18, 19], [8, 9, 10, 15, 16, 18, 19], [9, 10, 15, 16, 18, 19], [10, 15, 16, 18, 19], [15, 16, 18, 19], [12, 13, 14, 15, 16, 18, 19], [13, 14, 15, 16, 18, 19], [14, 15, 16, 18, 19], [15, 16, 18, 19], [16, 18, 19], [18, 19], [18, 19], [19], []] (by kernel_rfl) rfl ?_
        refine any_take (i := 0) (by kernel_rfl) rfl rfl (by decide) (fun _ _ _ _ _ h => h) rfl (rd_move rfl) ?_
        refine any_take (i := 1) (by kernel_rfl) rfl rfl (by decide) (fun _ _ _ _ _ h => h) rfl (rd_nilCheck rfl) ?_
        first | refine any_take (i := 2) (by kernel_rfl) rfl rfl (by decide) (fun _ _ _ _ _ h => h) rfl (rd_fieldAddr0 rfl fld194_2) ?_ | refine any_take (i := 2) (by kernel_rfl) rfl rfl (by decide) (fun _ _ _ _ _ h => h) rfl (rd_fieldAddr rfl fld194_2) ?_
        refine any_take (i := 3) (by kernel_rfl) rfl rfl (by decide) (fun _ _ _ _ _ h => h) rfl (rd_load rfl row25 (cells_pts1 (by repeat (first | with_reducible exact Sel.head | apply Sel.tail)) rfl)) ?_
        refine any_take (i := 4) (by kernel_rfl) rfl rfl (by decide) (fun _ _ _ _ _ h => h) rfl ((rd_eq rfl rfl).eq (show _ = Value.bool true by simp; omega)) ?_
        refine any_take (i := 5) (by kernel_rfl) rfl rfl (by decide) (fun _ _ _ _ _ h => h) rfl (rd_move rfl) ?_
        first | refine any_skip (i := 6) (by kernel_rfl) rfl rfl (by decide) (fun _ _ _ _ _ h => h) rfl ?_ | refine any_take (i := 6) (by kernel_rfl) rfl rfl (by decide) (fun _ _ _ _ _ h => h) rfl (rd_move rfl) ?_
        first | refine any_skip (i := 7) (by kernel_rfl) rfl rfl (by decide) (fun _ _ _ _ _ h => h) rfl ?_ | refine any_take (i := 7) (by kernel_rfl) rfl rfl (by decide) (fun _ _ _ _ _ h => h) rfl (rd_nilCheck rfl) ?_
        first | refine any_skip (i := 8) (by kernel_rfl) rfl rfl (by decide) (fun _ _ _ _ _ h => h) rfl ?_ | refine any_take (i := 8) (by kernel_rfl) rfl rfl (by decide) (fun _ _ _ _ _ h => h) rfl (rd_fieldAddr0 rfl fld194_0) ?_ | refine any_take (i := 8) (by kernel_rfl) rfl rfl (by decide) (fun _ _ _ _ _ h => h) rfl (rd_fieldAddr rfl fld194_0) ?_
        first | refine any_skip (i := 9) (by kernel_rfl) rfl rfl (by decide) (fun _ _ _ _ _ h => h) rfl ?_ | refine any_take (i := 9) (by kernel_rfl) rfl rfl (by decide) (fun _ _ _ _ _ h => h) rfl (rd_load rfl row26 (cells_pts1 (by repeat (first | with_reducible exact Sel.head | apply Sel.tail)) rfl)) ?_
        first | refine any_skip (i := 10) (by kernel_rfl) rfl rfl (by decide) (fun _ _ _ _ _ h => h) rfl ?_ | refine any_take (i := 10) (by kernel_rfl) rfl rfl (by decide) (fun _ _ _ _ _ h => h) rfl (rd_len Try.underlying26 rfl) ?_
        first | refine any_skip (i := 11) (by kernel_rfl) rfl rfl (by decide) (fun _ _ _ _ _ h => h) rfl ?_ | refine any_take (i := 11) (by kernel_rfl) rfl rfl (by decide) (fun _ _ _ _ _ h => h) rfl (rd_move rfl) ?_
        first | refine any_skip (i := 12) (by kernel_rfl) rfl rfl (by decide) (fun _ _ _ _ _ h => h) rfl ?_ | refine any_take (i := 12) (by kernel_rfl) rfl rfl (by decide) (fun _ _ _ _ _ h => h) rfl (rd_nilCheck rfl) ?_
        first | refine any_skip (i := 13) (by kernel_rfl) rfl rfl (by decide) (fun _ _ _ _ _ h => h) rfl ?_ | refine any_take (i := 13) (by kernel_rfl) rfl rfl (by decide) (fun _ _ _ _ _ h => h) rfl (rd_fieldAddr0 rfl fld194_1) ?_ | refine any_take (i := 13) (by kernel_rfl) rfl rfl (by decide) (fun _ _ _ _ _ h => h) rfl (rd_fieldAddr rfl fld194_1) ?_
        first | refine any_skip (i := 14) (by kernel_rfl) rfl rfl (by decide) (fun _ _ _ _ _ h => h) rfl ?_ | refine any_take (i := 14) (by kernel_rfl) rfl rfl (by decide) (fun _ _ _ _ _ h => h) rfl (rd_load rfl row3 (cells_pts1 (by repeat (first | with_reducible exact Sel.head | apply Sel.tail)) rfl)) ?_
        first | refine any_skip (i := 15) (by kernel_rfl) rfl rfl (by decide) (fun _ _ _ _ _ h => h) rfl ?_ | refine any_take (i := 15) (by kernel_rfl) rfl rfl (by decide) (fun _ _ _ _ _ h => h) rfl ((rd_sub rfl rfl).eq (congrArg (Value.int .i64) (IntWalk.i64_in _ (by omega)))) ?_ | refine any_take (i := 15) (by kernel_rfl) rfl rfl (by decide) (fun _ _ _ _ _ h => h) rfl (rd_sub rfl rfl) ?_
        first | refine any_skip (i := 16) (by kernel_rfl) rfl rfl (by decide) (fun _ _ _ _ _ h => h) rfl ?_ | refine any_take (i := 16) (by kernel_rfl) rfl rfl (by decide) (fun _ _ _ _ _ h => h) rfl ((rd_conv Try.underlying3 Try.underlying183 rfl).eq (congrArg (Value.int .u64) (IntWalk.u64_in _ (by omega)))) ?_ | refine any_take (i := 16) (by kernel_rfl) rfl rfl (by decide) (fun _ _ _ _ _ h => h) rfl (rd_conv Try.underlying3 Try.underlying183 rfl) ?_
        first | refine any_skip (i := 17) (by kernel_rfl) rfl rfl (by decide) (fun _ _ _ _ _ h => h) rfl ?_ | refine any_take (i := 17) (by kernel_rfl) rfl rfl (by decide) (fun _ _ _ _ _ h => h) rfl (rd_move rfl) ?_
        first | refine any_skip (i := 18) (by kernel_rfl) rfl rfl (by decide) (fun _ _ _ _ _ h => h) rfl ?_ | refine any_take (i := 18) (by kernel_rfl) rfl rfl (by decide) (fun _ _ _ _ _ h => h) rfl (rd_lt rfl rfl) ?_
        first | refine any_take (i := 19) (by kernel_rfl) rfl rfl (by decide) (fun _ _ _ _ _ h => h) rfl (rd_pick_t rfl rfl) ?_ | refine any_take (i := 19) (by kernel_rfl) rfl rfl (by decide) (fun _ _ _ _ _ h => h) rfl (rd_pick_f rfl rfl) ?_
        refine any_nil (by kernel_rfl) ?_
        refine St.keep (β' := [(0, _), (3, _), (4, _), (43, _)]) ⟨rfl, rfl, rfl, rfl, trivial⟩ ?_
        refine St.then_n ?_
        refine do_condp rfl (fun h43 => absurd h43 (by omega)) (fun h43 => ?_)
        refine do_skip ?_
        refine St.then_n ?_
        refine do_seq ?_
        refine do_seq ?_
        refine do_region ?_
        refine run_read rfl (by decide) (fun _ => nofun) (rd_move rfl) ?_
        refine run_read rfl (by decide) (fun _ => nofun) (rd_nilCheck rfl) ?_
        first | refine run_read rfl (by decide) (fun _ => nofun) (rd_fieldAddr0 rfl fld194_2) ?_ | refine run_read rfl (by decide) (fun _ => nofun) (rd_fieldAddr rfl fld194_2) ?_
        refine run_read rfl (by decide) (fun _ => nofun) (rd_load rfl row25 (cells_pts1 (by repeat (first | with_reducible exact Sel.head | apply Sel.tail)) rfl)) ?_
        refine run_read rfl (by decide) (fun _ => nofun) (rd_ne rfl rfl) ?_
        refine run_nil ?_
        refine St.keep (β' := [(0, _), (3, _), (4, _), (51, _)]) ⟨rfl, rfl, rfl, rfl, trivial⟩ ?_
        refine St.then_n ?_
        refine do_condp rfl (fun h51 => absurd h51 (by omega)) (fun h51 => ?_)
        refine do_skip ?_
        refine St.then_n ?_
        refine do_seq ?_
        refine do_region ?_
        refine run_read rfl (by decide) (fun _ => nofun) (rd_assign rfl) ?_
        refine run_nil ?_
        refine St.then_n ?_
        refine do_seq ?_
        refine do_draw [[17, 18], [2, 3, 4, 16, 17, 18], [3, 4, 16, 17, 18], [4, 16, 17, 18], [16, 17, 18], [6, 7, 8, 16, 17, 18], [7, 8, 16, 17, 18], [8, 16, 17, 18], [16, 17, 18], [10, 11, 12, 15, 16, 17, 18], [11, 12, 15, 16, 17, 18], [12, 15, 16, 17, 18], [15, 16, 17, 18], [14, 15, 16, 17, 18], [15, 16, 17, 18], [16, 17, 18], [17, 18], [18], []] (by kernel_rfl) rfl ?_
        refine any_take (i := 0) (by kernel_rfl) rfl rfl (by decide) (fun _ _ _ _ _ h => h) rfl (rd_move rfl) ?_
        refine any_take (i := 1) (by kernel_rfl) rfl rfl (by decide) (fun _ _ _ _ _ h => h) rfl (rd_move rfl) ?_
        refine any_take (i := 2) (by kernel_rfl) rfl rfl (by decide) (fun _ _ _ _ _ h => h) rfl (rd_nilCheck rfl) ?_
        first | refine any_take (i := 3) (by kernel_rfl) rfl rfl (by decide) (fun _ _ _ _ _ h => h) rfl (rd_fieldAddr0 rfl fld194_0) ?_ | refine any_take (i := 3) (by kernel_rfl) rfl rfl (by decide) (fun _ _ _ _ _ h => h) rfl (rd_fieldAddr rfl fld194_0) ?_
        refine any_take (i := 4) (by kernel_rfl) rfl rfl (by decide) (fun _ _ _ _ _ h => h) rfl (rd_load rfl row26 (cells_pts1 (by repeat (first | with_reducible exact Sel.head | apply Sel.tail)) rfl)) ?_
        refine any_take (i := 5) (by kernel_rfl) rfl rfl (by decide) (fun _ _ _ _ _ h => h) rfl (rd_move rfl) ?_
        refine any_take (i := 6) (by kernel_rfl) rfl rfl (by decide) (fun _ _ _ _ _ h => h) rfl (rd_nilCheck rfl) ?_
        first | refine any_take (i := 7) (by kernel_rfl) rfl rfl (by decide) (fun _ _ _ _ _ h => h) rfl (rd_fieldAddr0 rfl fld194_1) ?_ | refine any_take (i := 7) (by kernel_rfl) rfl rfl (by decide) (fun _ _ _ _ _ h => h) rfl (rd_fieldAddr rfl fld194_1) ?_
        refine any_take (i := 8) (by kernel_rfl) rfl rfl (by decide) (fun _ _ _ _ _ h => h) rfl (rd_load rfl row3 (cells_pts1 (by repeat (first | with_reducible exact Sel.head | apply Sel.tail)) rfl)) ?_
        refine any_take (i := 9) (by kernel_rfl) rfl rfl (by decide) (fun _ _ _ _ _ h => h) rfl (rd_move rfl) ?_
        refine any_take (i := 10) (by kernel_rfl) rfl rfl (by decide) (fun _ _ _ _ _ h => h) rfl (rd_nilCheck rfl) ?_
        first | refine any_take (i := 11) (by kernel_rfl) rfl rfl (by decide) (fun _ _ _ _ _ h => h) rfl (rd_fieldAddr0 rfl fld194_1) ?_ | refine any_take (i := 11) (by kernel_rfl) rfl rfl (by decide) (fun _ _ _ _ _ h => h) rfl (rd_fieldAddr rfl fld194_1) ?_
        refine any_take (i := 12) (by kernel_rfl) rfl rfl (by decide) (fun _ _ _ _ _ h => h) rfl (rd_load rfl row3 (cells_pts1 (by repeat (first | with_reducible exact Sel.head | apply Sel.tail)) rfl)) ?_
        refine any_take (i := 13) (by kernel_rfl) rfl rfl (by decide) (fun _ _ _ _ _ h => h) rfl (rd_move rfl) ?_
        first | refine any_take (i := 14) (by kernel_rfl) rfl rfl (by decide) (fun _ _ _ _ _ h => h) rfl ((rd_conv Try.underlying183 Try.underlying3 rfl).eq (congrArg (Value.int .i64) (IntWalk.i64_in _ (by omega)))) ?_ | refine any_take (i := 14) (by kernel_rfl) rfl rfl (by decide) (fun _ _ _ _ _ h => h) rfl (rd_conv Try.underlying183 Try.underlying3 rfl) ?_
        first | refine any_take (i := 15) (by kernel_rfl) rfl rfl (by decide) (fun _ _ _ _ _ h => h) rfl ((rd_add rfl rfl).eq (congrArg (Value.int .i64) (IntWalk.i64_in _ (by omega)))) ?_ | refine any_take (i := 15) (by kernel_rfl) rfl rfl (by decide) (fun _ _ _ _ _ h => h) rfl (rd_add rfl rfl) ?_
        refine any_take (i := 16) (by kernel_rfl) rfl rfl (by decide) (fun _ _ _ _ _ h => h) rfl ((rd_slice (i := s1.at_) (j := (s1.at_ + n : Nat)) Try.underlying26 ei5 rfl rfl rfl (by omega) (by omega) (by omega)).eq (show _ = Value.slice (subA A cap s1.at_ 1) n (cap - s1.at_) by simp; omega)) ?_
        refine any_run (j := 17) (by kernel_rfl) rfl ?_
        refine St.own_nil (T := 5) (k := 1) ?_
        refine run_append rfl (by decide) Try.underlying26 ei5 rfl rfl .head (X := bytesO (.slice A B.length cap) B) (vw_part (i := s1.at_) (n := n) (by omega)) (by repeat (first | with_reducible exact Sel.head | apply Sel.tail)) (by simp only [List.mem_map]; rintro c ⟨b, _, rfl⟩; rfl) (by simp [maxLen]; omega) (by simp; omega) (fun v1 _ => ?_)
        rw [own_bytes (v := v1) (bs := (B.drop s1.at_).take n) (by simp) (by simp)]
        refine run_nil ?_
        refine St.then_n ?_
        refine any_next (by apply Beh.drop (i := 16) (by kernel_rfl); apply Beh.drop (i := 15) (by kernel_rfl); apply Beh.drop (i := 14) (by kernel_rfl); apply Beh.drop (i := 13) (by kernel_rfl); apply Beh.drop (i := 12) (by kernel_rfl); apply Beh.drop (i := 11) (by kernel_rfl); apply Beh.drop (i := 10) (by kernel_rfl); apply Beh.drop (i := 9) (by kernel_rfl); apply Beh.drop (i := 8) (by kernel_rfl); apply Beh.drop (i := 7) (by kernel_rfl); apply Beh.drop (i := 6) (by kernel_rfl); apply Beh.drop (i := 5) (by kernel_rfl); apply Beh.drop (i := 4) (by kernel_rfl); apply Beh.drop (i := 3) (by kernel_rfl); apply Beh.drop (i := 2) (by kernel_rfl); apply Beh.drop (i := 1) (by kernel_rfl); apply Beh.drop (i := 0) (by kernel_rfl); exact .nil) ?_
        refine any_take (i := 18) (by kernel_rfl) rfl rfl (by decide) (fun _ _ _ _ _ h => h) rfl (rd_assign rfl) ?_
        refine any_nil (by kernel_rfl) ?_
        refine St.keep (β' := [(0, _), (4, _), (5, _)]) ⟨rfl, rfl, rfl, trivial⟩ ?_
        refine St.then_n ?_
        refine do_seq ?_
        refine do_region ?_
        refine run_read rfl (by decide) (fun _ => nofun) (rd_move rfl) ?_
        refine run_read rfl (by decide) (fun _ => nofun) (rd_move rfl) ?_
        refine run_read rfl (by decide) (fun _ => nofun) (rd_nilCheck rfl) ?_
        first | refine run_read rfl (by decide) (fun _ => nofun) (rd_fieldAddr0 rfl fld194_1) ?_ | refine run_read rfl (by decide) (fun _ => nofun) (rd_fieldAddr rfl fld194_1) ?_
        refine run_read rfl (by decide) (fun _ => nofun) (rd_load rfl row3 (cells_pts1 (by repeat (first | with_reducible exact Sel.head | apply Sel.tail)) rfl)) ?_
        refine run_read rfl (by decide) (fun _ => nofun) (rd_move rfl) ?_
        first | refine run_read rfl (by decide) (fun _ => nofun) ((rd_conv Try.underlying183 Try.underlying3 rfl).eq (congrArg (Value.int .i64) (IntWalk.i64_in _ (by omega)))) ?_ | refine run_read rfl (by decide) (fun _ => nofun) (rd_conv Try.underlying183 Try.underlying3 rfl) ?_
        first | refine run_read rfl (by decide) (fun _ => nofun) ((rd_add rfl rfl).eq (congrArg (Value.int .i64) (IntWalk.i64_in _ (by omega)))) ?_ | refine run_read rfl (by decide) (fun _ => nofun) (rd_add rfl rfl) ?_
        refine run_read rfl (by decide) (fun _ => nofun) (rd_nilCheck rfl) ?_
        first | refine run_read rfl (by decide) (fun _ => nofun) (rd_fieldAddr0 rfl fld194_1) ?_ | refine run_read rfl (by decide) (fun _ => nofun) (rd_fieldAddr rfl fld194_1) ?_
        refine run_store rfl rfl rfl (by repeat (first | with_reducible exact Sel.head | apply Sel.tail)) row3 rfl rfl (by simp only [List.set_cons_succ, List.set_cons_zero]; exact rfl) ?_
        refine run_nil ?_
        refine St.keep (β' := [(5, _)]) ⟨rfl, trivial⟩ ?_
        refine St.then_n ?_
        refine do_seq ?_
        refine do_region ?_
        refine run_read rfl (by decide) (fun _ => nofun) (rd_move rfl) ?_
        refine run_read rfl (by decide) (fun _ => nofun) (rd_assign rfl) ?_
        refine run_nil ?_
        refine St.then_n ?_
        refine do_ret ?_
        refine do_ret1 Try.results89 (res_tmp rfl) ?_
        intro w hw
        exact ⟨v1, trivial, rfl, Holds.swap_ (Holds.rd_shut (A := A) (cap := cap) ⟨s1.at_ + n, s1.why⟩ (.cons .head (.cons (by repeat (first | with_reducible exact Sel.head | apply Sel.tail)) .nil)) hw)⟩
  · have e := kb h1
    have e2 : rB B s = ([], ⟨s.at_, s1.why⟩) := by rw [rB_err (by rw [e]; exact h1), e]
    rw [e2]
    refine do_seq ?_
    refine do_region ?_
    refine run_read rfl (by decide) (fun _ => nofun) (rd_assign rfl) ?_
    refine run_nil ?_
    refine St.then_n ?_
    refine do_seq ?_
    refine do_region ?_
    refine St.sel (P := rdO 194 r B s) (by repeat (first | with_reducible exact Sel.head | apply Sel.tail)) (St.rd_open fun A cap => ?_)
    refine run_read rfl (by decide) (fun _ => nofun) (rd_move rfl) ?_
    refine run_read rfl (by decide) (fun _ => nofun) (rd_nilCheck rfl) ?_
    first | refine run_read rfl (by decide) (fun _ => nofun) (rd_fieldAddr0 rfl fld194_1) ?_ | refine run_read rfl (by decide) (fun _ => nofun) (rd_fieldAddr rfl fld194_1) ?_
    refine run_read rfl (by decide) (fun _ => nofun) (rd_load rfl row3 (cells_pts1 (by repeat (first | with_reducible exact Sel.head | apply Sel.tail)) rfl)) ?_
    refine run_read rfl (by decide) (fun _ => nofun) (rd_assign rfl) ?_
    refine run_nil ?_
    refine St.keep (β' := [(0, _), (3, _)]) ⟨rfl, rfl, trivial⟩ ?_
    refine St.then_n ?_
    refine do_seq ?_
    refine do_region ?_
    refine St.rd_shut (A := A) (cap := cap) s (by repeat (first | exact Pick.nil | apply Pick.cons (by repeat (first | with_reducible exact Sel.head | apply Sel.tail)))) ?_
    refine run_read rfl (by decide) (fun _ => nofun) (rd_move rfl) ?_
    refine run_spec rfl (by decide) (by kernel_rfl) rfl (by repeat (first | exact Pick.nil | apply Pick.cons (by repeat (first | with_reducible exact Sel.head | apply Sel.tail)))) (refRdUint_spec _ hs hl) ?_
    rintro ⟨⟩ -
    rw [hr]
    dsimp only
    try simp only [List.cons_append, List.nil_append]
    refine run_read rfl (by decide) (fun _ => nofun) (rd_assign rfl) ?_
    refine run_nil ?_
    refine St.then_n ?_
    refine do_seq ?_
    refine do_seq ?_
    refine do_region ?_
    refine St.sel (P := rdO 194 r B s1) (by repeat (first | with_reducible exact Sel.head | apply Sel.tail)) (St.rd_open fun A cap => ?_)
    refine run_read rfl (by decide) (fun _ => nofun) (rd_move rfl) ?_
    refine run_read rfl (by decide) (fun _ => nofun) (rd_nilCheck rfl) ?_
    first | refine run_read rfl (by decide) (fun _ => nofun) (rd_fieldAddr0 rfl fld194_2) ?_ | refine run_read rfl (by decide) (fun _ => nofun) (rd_fieldAddr rfl fld194_2) ?_
    refine run_read rfl (by decide) (fun _ => nofun) (rd_load rfl row25 (cells_pts1 (by repeat (first | with_reducible exact Sel.head | apply Sel.tail)) rfl)) ?_
    refine run_read rfl (by decide) (fun _ => nofun) ((rd_eq rfl rfl).eq (show _ = Value.bool false by simp; omega)) ?_
    refine run_read rfl (by decide) (fun _ => nofun) (rd_move rfl) ?_
    first | (refine run_skip rfl rfl ?_) | (refine run_read rfl (by decide) (fun _ => nofun) (rd_move rfl) ?_)
    first | (refine run_skip rfl rfl ?_) | (refine run_read rfl (by decide) (fun _ => nofun) (rd_gt rfl rfl) ?_)
    first | refine run_read rfl (by decide) (fun _ => nofun) (rd_pick_t rfl rfl) ?_ | refine run_read rfl (by decide) (fun _ => nofun) (rd_pick_f rfl rfl) ?_
    refine run_nil ?_
    refine St.keep (β' := [(0, _), (3, _), (4, _), (20, _)]) ⟨rfl, rfl, rfl, rfl, trivial⟩ ?_
    refine St.then_n ?_
    refine do_cond_f rfl ?_
    refine do_skip ?_
    refine St.then_n ?_
    refine do_seq ?_
    refine do_seq ?_
    refine do_draw [[1, 2, 3, 4, 5, 6, 7, 8, 9, 10, 11, 12, 13, 14, 15, 16, 17, 18, 19], [2, 3, 4, 5, 6, 7, 8, 9, 10, 11, 12, 13, 14, 15, 16, 17, 18, 19], [3, 4, 5, 6, 7, 8, 9, 10, 11, 12, 13, 14, 15, 16, 17, 18, 19], [4, 5, 6, 7, 8, 9, 10, 11, 12, 13, 14, 15, 16, 17, 18, 19], [5, 6, 7, 8, 9, 10, 11, 12, 13, 14, 15, 16, 17, 18, 19], [6, 7, 8, 9, 10, 11, 12, 13, 14, 15, 16, 17, 18, 19], [7, 8, 9, 10, 15, 16, 18, 19], [8, 9, 10, 15, 16, 18, 19], [9, 10, 15, 16, 18, 19], [10, 15, 16, 18, 19], [15, 16, 18, 19], [12, 13, 14, 15, 16, 18, 19], [13, 14, 15, 16, 18, 19], [14, 15, 16, 18, 19], [15, 16, 18, 19], [16, 18, 19], [18, 19], [18, 19], [19], []] (by kernel_rfl) rfl ?_
    refine any_take (i := 0) (by kernel_rfl) rfl rfl (by decide) (fun _ _ _ _ _ h => h) rfl (rd_move rfl) ?_
    refine any_take (i := 1) (by kernel_rfl) rfl rfl (by decide) (fun _ _ _ _ _ h => h) rfl (rd_nilCheck rfl) ?_
    first | refine any_take (i := 2) (by kernel_rfl) rfl rfl (by decide) (fun _ _ _ _ _ h => h) rfl (rd_fieldAddr0 rfl fld194_2) ?_ | refine any_take (i := 2) (by kernel_rfl) rfl rfl (by decide) (fun _ _ _ _ _ h => h) rfl (rd_fieldAddr rfl fld194_2) ?_
    refine any_take (i := 3) (by kernel_rfl) rfl rfl (by decide) (fun _ _ _ _ _ h => h) rfl (rd_load rfl row25 (cells_pts1 (by repeat (first | with_reducible exact Sel.head | apply Sel.tail)) rfl)) ?_
    refine any_take (i := 4) (by kernel_rfl) rfl rfl (by decide) (fun _ _ _ _ _ h => h) rfl ((rd_eq rfl rfl).eq (show _ = Value.bool false by simp; omega)) ?_
    refine any_take (i := 5) (by kernel_rfl) rfl rfl (by decide) (fun _ _ _ _ _ h => h) rfl (rd_move rfl) ?_
    first | refine any_skip (i := 6) (by kernel_rfl) rfl rfl (by decide) (fun _ _ _ _ _ h => h) rfl ?_ | refine any_take (i := 6) (by kernel_rfl) rfl rfl (by decide) (fun _ _ _ _ _ h => h) rfl (rd_move rfl) ?_
    first | refine any_skip (i := 7) (by kernel_rfl) rfl rfl (by decide) (fun _ _ _ _ _ h => h) rfl ?_ | refine any_take (i := 7) (by kernel_rfl) rfl rfl (by decide) (fun _ _ _ _ _ h => h) rfl (rd_nilCheck rfl) ?_
    first | refine any_skip (i := 8) (by kernel_rfl) rfl rfl (by decide) (fun _ _ _ _ _ h => h) rfl ?_ | refine any_take (i := 8) (by kernel_rfl) rfl rfl (by decide) (fun _ _ _ _ _ h => h) rfl (rd_fieldAddr0 rfl fld194_0) ?_ | refine any_take (i := 8) (by kernel_rfl) rfl rfl (by decide) (fun _ _ _ _ _ h => h) rfl (rd_fieldAddr rfl fld194_0) ?_
    first | refine any_skip (i := 9) (by kernel_rfl) rfl rfl (by decide) (fun _ _ _ _ _ h => h) rfl ?_ | refine any_take (i := 9) (by kernel_rfl) rfl rfl (by decide) (fun _ _ _ _ _ h => h) rfl (rd_load rfl row26 (cells_pts1 (by repeat (first | with_reducible exact Sel.head | apply Sel.tail)) rfl)) ?_
    first | refine any_skip (i := 10) (by kernel_rfl) rfl rfl (by decide) (fun _ _ _ _ _ h => h) rfl ?_ | refine any_take (i := 10) (by kernel_rfl) rfl rfl (by decide) (fun _ _ _ _ _ h => h) rfl (rd_len Try.underlying26 rfl) ?_
    first | refine any_skip (i := 11) (by kernel_rfl) rfl rfl (by decide) (fun _ _ _ _ _ h => h) rfl ?_ | refine any_take (i := 11) (by kernel_rfl) rfl rfl (by decide) (fun _ _ _ _ _ h => h) rfl (rd_move rfl) ?_
    first | refine any_skip (i := 12) (by kernel_rfl) rfl rfl (by decide) (fun _ _ _ _ _ h => h) rfl ?_ | refine any_take (i := 12) (by kernel_rfl) rfl rfl (by decide) (fun _ _ _ _ _ h => h) rfl (rd_nilCheck rfl) ?_
    first | refine any_skip (i := 13) (by kernel_rfl) rfl rfl (by decide) (fun _ _ _ _ _ h => h) rfl ?_ | refine any_take (i := 13) (by kernel_rfl) rfl rfl (by decide) (fun _ _ _ _ _ h => h) rfl (rd_fieldAddr0 rfl fld194_1) ?_ | refine any_take (i := 13) (by kernel_rfl) rfl rfl (by decide) (fun _ _ _ _ _ h => h) rfl (rd_fieldAddr rfl fld194_1) ?_
    first | refine any_skip (i := 14) (by kernel_rfl) rfl rfl (by decide) (fun _ _ _ _ _ h => h) rfl ?_ | refine any_take (i := 14) (by kernel_rfl) rfl rfl (by decide) (fun _ _ _ _ _ h => h) rfl (rd_load rfl row3 (cells_pts1 (by repeat (first | with_reducible exact Sel.head | apply Sel.tail)) rfl)) ?_
    first | refine any_skip (i := 15) (by kernel_rfl) rfl rfl (by decide) (fun _ _ _ _ _ h => h) rfl ?_ | refine any_take (i := 15) (by kernel_rfl) rfl rfl (by decide) (fun _ _ _ _ _ h => h) rfl ((rd_sub rfl rfl).eq (congrArg (Value.int .i64) (IntWalk.i64_in _ (by omega)))) ?_ | refine any_take (i := 15) (by kernel_rfl) rfl rfl (by decide) (fun _ _ _ _ _ h => h) rfl (rd_sub rfl rfl) ?_
    first | refine any_skip (i := 16) (by kernel_rfl) rfl rfl (by decide) (fun _ _ _ _ _ h => h) rfl ?_ | refine any_take (i := 16) (by kernel_rfl) rfl rfl (by decide) (fun _ _ _ _ _ h => h) rfl ((rd_conv Try.underlying3 Try.underlying183 rfl).eq (congrArg (Value.int .u64) (IntWalk.u64_in _ (by omega)))) ?_ | refine any_take (i := 16) (by kernel_rfl) rfl rfl (by decide) (fun _ _ _ _ _ h => h) rfl (rd_conv Try.underlying3 Try.underlying183 rfl) ?_
    first | refine any_skip (i := 17) (by kernel_rfl) rfl rfl (by decide) (fun _ _ _ _ _ h => h) rfl ?_ | refine any_take (i := 17) (by kernel_rfl) rfl rfl (by decide) (fun _ _ _ _ _ h => h) rfl (rd_move rfl) ?_
    first | refine any_skip (i := 18) (by kernel_rfl) rfl rfl (by decide) (fun _ _ _ _ _ h => h) rfl ?_ | refine any_take (i := 18) (by kernel_rfl) rfl rfl (by decide) (fun _ _ _ _ _ h => h) rfl (rd_lt rfl rfl) ?_
    first | refine any_take (i := 19) (by kernel_rfl) rfl rfl (by decide) (fun _ _ _ _ _ h => h) rfl (rd_pick_t rfl rfl) ?_ | refine any_take (i := 19) (by kernel_rfl) rfl rfl (by decide) (fun _ _ _ _ _ h => h) rfl (rd_pick_f rfl rfl) ?_
    refine any_nil (by kernel_rfl) ?_
    refine St.keep (β' := [(0, _), (3, _), (4, _), (43, _)]) ⟨rfl, rfl, rfl, rfl, trivial⟩ ?_
    refine St.then_n ?_
    refine do_cond_f rfl ?_
    refine do_skip ?_
    refine St.then_n ?_
    refine do_seq ?_
    refine do_seq ?_
    refine do_region ?_
    refine run_read rfl (by decide) (fun _ => nofun) (rd_move rfl) ?_
    refine run_read rfl (by decide) (fun _ => nofun) (rd_nilCheck rfl) ?_
    first | refine run_read rfl (by decide) (fun _ => nofun) (rd_fieldAddr0 rfl fld194_2) ?_ | refine run_read rfl (by decide) (fun _ => nofun) (rd_fieldAddr rfl fld194_2) ?_
    refine run_read rfl (by decide) (fun _ => nofun) (rd_load rfl row25 (cells_pts1 (by repeat (first | with_reducible exact Sel.head | apply Sel.tail)) rfl)) ?_
    refine run_read rfl (by decide) (fun _ => nofun) (rd_ne rfl rfl) ?_
    refine run_nil ?_
    refine St.keep (β' := [(0, _), (3, _), (4, _), (51, _)]) ⟨rfl, rfl, rfl, rfl, trivial⟩ ?_
    refine St.then_n ?_
    refine do_condp rfl (fun h51 => ?_) (fun h51 => absurd (by omega) h51)
    refine do_seq ?_
    refine do_region ?_
    refine run_read rfl (by decide) (fun _ => nofun) (rd_move rfl) ?_
    refine run_read rfl (by decide) (fun _ => nofun) (rd_move rfl) ?_
    refine run_read rfl (by decide) (fun _ => nofun) (rd_nilCheck rfl) ?_
    first | refine run_read rfl (by decide) (fun _ => nofun) (rd_fieldAddr0 rfl fld194_1) ?_ | refine run_read rfl (by decide) (fun _ => nofun) (rd_fieldAddr rfl fld194_1) ?_
    refine run_store rfl rfl rfl (by repeat (first | with_reducible exact Sel.head | apply Sel.tail)) row3 rfl rfl (by simp only [List.set_cons_succ, List.set_cons_zero]; exact rfl) ?_
    refine run_nil ?_
    refine St.keep (β' := []) trivial ?_
    refine St.then_n ?_
    refine do_seq ?_
    refine do_region ?_
    refine run_read rfl (by decide) (fun _ => nofun) (rd_assign rfl) ?_
    refine run_nil ?_
    refine St.then_n ?_
    refine do_ret ?_
    refine St.then_r ?_
    refine do_ret1 Try.results89 (res_tmp rfl) ?_
    intro w hw
    exact ⟨_, trivial, rfl, Holds.own_nil (Holds.rd_shut (A := A) (cap := cap) ⟨s.at_, s1.why⟩ (by repeat (first | exact Pick.nil | apply Pick.cons (by repeat (first | with_reducible exact Sel.head | apply Sel.tail)))) hw)⟩
theorem refRdText_spec (F : HP) (hs : s.at_ ≤ B.length) (hl : B.length ≤ 140737488355328) :
    Spec Try.prog 127 [.pointer (some ⟨r, 0, none⟩)] [rdO 194 r B s] F (fun _ : Unit => True) (fun _ => .string (strOf (rB B s).1)) (fun _ => [rdO 194 r B (rB B s).2]) := by
  intro ω w hh
  refine enter Try.func127 rfl Try.ntmps127 rfl hh ?_
  simp only [List.cons_append, List.nil_append, argsB]
  refine do_seq ?_
  refine do_region ?_
  refine run_read rfl (by decide) (fun _ => nofun) (rd_assign rfl) ?_
  refine run_nil ?_
  refine St.then_n ?_
  refine do_seq ?_
  refine do_region ?_
  refine run_read rfl (by decide) (fun _ => nofun) (rd_move rfl) ?_
  refine run_spec rfl (by decide) (by kernel_rfl) rfl (by repeat (first | exact Pick.nil | apply Pick.cons (by repeat (first | with_reducible exact Sel.head | apply Sel.tail)))) (refRdBytes_spec _ hs hl) ?_
  rintro v1 -
  try simp only [List.cons_append, List.nil_append]
  refine run_read rfl (by decide) (fun _ => nofun) (rd_bytes_string Try.underlying26 Try.underlying5 Try.underlying9 rfl vw_bytes .head) ?_
  refine run_read rfl (by decide) (fun _ => nofun) (rd_assign rfl) ?_
  refine run_nil ?_
  refine St.keep (β' := [(2, _)]) ⟨rfl, trivial⟩ ?_
  refine St.then_n ?_
  refine do_ret ?_
  refine do_ret1 Try.results127 (res_tmp rfl) ?_
  intro w hw
  exact ⟨(), trivial, rfl, hw.drop⟩
theorem refRdCount_spec (F : HP) (most : Nat) (hm : most ≤ 9223372036854775807) (hs : s.at_ ≤ B.length) (hl : B.length ≤ 140737488355328) :
    Spec Try.prog 129 [.pointer (some ⟨r, 0, none⟩), .int .i64 most] [rdO 194 r B s] F (fun _ : Unit => True) (fun _ => .int .i64 (rN most B s).1) (fun _ => [rdO 194 r B (rN most B s).2]) := by
  intro ω w hh
  refine enter Try.func129 rfl Try.ntmps129 rfl hh ?_
  simp only [List.cons_append, List.nil_append, argsB]
  have hlt := rU_lt B s
  have hok := rU_ok hs
  have hwy := @rU_why B s
  have kb := @rN_bad' B s most
  have kg := @rN_big B s most
  have ks := @rN_short B s most
  have ko := @rN_good B s most
  obtain ⟨⟨n, s1⟩, hr⟩ : ∃ q, rU B s = q := ⟨_, rfl⟩
  rw [hr] at hlt hok hwy kb kg ks ko
  dsimp only at hlt hok hwy kb kg ks ko
  by_cases h1 : s1.why = 0
  · by_cases h2 : most < n
    · rw [kg (hwy h1) h1 h2]
      refine do_seq ?_
      refine do_region ?_
      refine run_read rfl (by decide) (fun _ => nofun) (rd_assign rfl) ?_
      refine run_nil ?_
      refine St.then_n ?_
      refine do_seq ?_
      refine do_region ?_
      refine St.sel (P := rdO 194 r B s) (by repeat (first | with_reducible exact Sel.head | apply Sel.tail)) (St.rd_open fun A cap => ?_)
      refine run_read rfl (by decide) (fun _ => nofun) (rd_move rfl) ?_
      refine run_read rfl (by decide) (fun _ => nofun) (rd_nilCheck rfl) ?_
      first | refine run_read rfl (by decide) (fun _ => nofun) (rd_fieldAddr0 rfl fld194_1) ?_ | refine run_read rfl (by decide) (fun _ => nofun) (rd_fieldAddr rfl fld194_1) ?_
      refine run_read rfl (by decide) (fun _ => nofun) (rd_load rfl row3 (cells_pts1 (by repeat (first | with_reducible exact Sel.head | apply Sel.tail)) rfl)) ?_
      refine run_read rfl (by decide) (fun _ => nofun) (rd_assign rfl) ?_
      refine run_nil ?_
      refine St.keep (β' := [(0, _), (1, _), (5, _)]) ⟨rfl, rfl, rfl, trivial⟩ ?_
      refine St.then_n ?_
      refine do_seq ?_
      refine do_region ?_
      refine St.rd_shut (A := A) (cap := cap) s (by repeat (first | exact Pick.nil | apply Pick.cons (by repeat (first | with_reducible exact Sel.head | apply Sel.tail)))) ?_
      refine run_read rfl (by decide) (fun _ => nofun) (rd_move rfl) ?_
      refine run_spec rfl (by decide) (by kernel_rfl) rfl (by repeat (first | exact Pick.nil | apply Pick.cons (by repeat (first | with_reducible exact Sel.head | apply Sel.tail)))) (refRdUint_spec _ hs hl) ?_
      rintro ⟨⟩ -
      rw [hr]
      dsimp only
      try simp only [List.cons_append, List.nil_append]
      refine run_read rfl (by decide) (fun _ => nofun) (rd_assign rfl) ?_
      refine run_nil ?_
      refine St.then_n ?_
      refine do_seq ?_
      refine do_seq ?_
      refine do_region ?_
      refine St.sel (P := rdO 194 r B s1) (by repeat (first | with_reducible exact Sel.head | apply Sel.tail)) (St.rd_open fun A cap => ?_)
      refine run_read rfl (by decide) (fun _ => nofun) (rd_move rfl) ?_
      refine run_read rfl (by decide) (fun _ => nofun) (rd_nilCheck rfl) ?_
      first | refine run_read rfl (by decide) (fun _ => nofun) (rd_fieldAddr0 rfl fld194_2) ?_ | refine run_read rfl (by decide) (fun _ => nofun) (rd_fieldAddr rfl fld194_2) ?_
      refine run_read rfl (by decide) (fun _ => nofun) (rd_load rfl row25 (cells_pts1 (by repeat (first | with_reducible exact Sel.head | apply Sel.tail)) rfl)) ?_
      refine run_read rfl (by decide) (fun _ => nofun) ((rd_eq rfl rfl).eq (show _ = Value.bool true by simp; omega)) ?_
      refine run_read rfl (by decide) (fun _ => nofun) (rd_move rfl) ?_
      first | (refine run_skip rfl rfl ?_) | (refine run_read rfl (by decide) (fun _ => nofun) (rd_move rfl) ?_)
      first | (refine run_skip rfl rfl ?_) | (refine run_read rfl (by decide) (fun _ => nofun) ((rd_lt rfl rfl).eq (show _ = Value.bool false by simp)) ?_)
      first | (refine run_skip rfl rfl ?_) | (refine run_read rfl (by decide) (fun _ => nofun) (rd_move rfl) ?_)
      first | (refine run_skip rfl rfl ?_) | (refine run_read rfl (by decide) (fun _ => nofun) (rd_move rfl) ?_)
      first | (refine run_skip rfl rfl ?_) | (refine run_read rfl (by decide) (fun _ => nofun) (rd_move rfl) ?_)
      first | (refine run_skip rfl rfl ?_) | (first | refine run_read rfl (by decide) (fun _ => nofun) ((rd_conv Try.underlying3 Try.underlying183 rfl).eq (congrArg (Value.int .u64) (IntWalk.u64_in _ (by omega)))) ?_ | refine run_read rfl (by decide) (fun _ => nofun) (rd_conv Try.underlying3 Try.underlying183 rfl) ?_)
      first | (refine run_skip rfl rfl ?_) | (refine run_read rfl (by decide) (fun _ => nofun) (rd_gt rfl rfl) ?_)
      first | (refine run_skip rfl rfl ?_) | (first | refine run_read rfl (by decide) (fun _ => nofun) (rd_pick_t rfl rfl) ?_ | refine run_read rfl (by decide) (fun _ => nofun) (rd_pick_f rfl rfl) ?_)
      first | refine run_read rfl (by decide) (fun _ => nofun) (rd_pick_t rfl rfl) ?_ | refine run_read rfl (by decide) (fun _ => nofun) (rd_pick_f rfl rfl) ?_
      refine run_nil ?_
      refine St.keep (β' := [(0, _), (5, _), (6, _), (27, _)]) ⟨rfl, rfl, rfl, rfl, trivial⟩ ?_
      refine St.then_n ?_
      refine do_condp rfl (fun h27 => ?_) (fun h27 => absurd (by omega) h27)
      refine do_region ?_
      refine run_read rfl (by decide) (fun _ => nofun) (rd_move rfl) ?_
      refine run_read rfl (by decide) (fun _ => nofun) (rd_nilCheck rfl) ?_
      first | refine run_read rfl (by decide) (fun _ => nofun) (rd_fieldAddr0 rfl fld194_2) ?_ | refine run_read rfl (by decide) (fun _ => nofun) (rd_fieldAddr rfl fld194_2) ?_
      refine run_store rfl rfl rfl (by repeat (first | with_reducible exact Sel.head | apply Sel.tail)) row25 rfl rfl (by simp only [List.set_cons_succ, List.set_cons_zero]; exact rfl) ?_
      refine run_nil ?_
      refine St.keep (β' := [(0, _), (5, _), (6, _)]) ⟨rfl, rfl, rfl, trivial⟩ ?_
      refine St.then_n ?_
      refine do_seq ?_
      refine do_seq ?_
      refine do_draw [[1, 2, 3, 4, 5, 6, 7, 8, 9, 10, 11, 12, 13, 14, 15, 16, 17, 18, 19], [2, 3, 4, 5, 6, 7, 8, 9, 10, 11, 12, 13, 14, 15, 16, 17, 18, 19], [3, 4, 5, 6, 7, 8, 9, 10, 11, 12, 13, 14, 15, 16, 17, 18, 19], [4, 5, 6, 7, 8, 9, 10, 11, 12, 13, 14, 15, 16, 17, 18, 19], [5, 6, 7, 8, 9, 10, 11, 12, 13, 14, 15, 16, 17, 18, 19], [6, 7, 8, 9, 10, 11, 12, 13, 14, 15, 16, 17, 18, 19], [18, 19], [8, 9, 10, 11, 16, 17, 18, 19], [9, 10, 11, 16, 17, 18, 19], [10, 11, 16, 17, 18, 19], [11, 16, 17, 18, 19], [16, 17, 18, 19], [13, 14, 15, 16, 17, 18, 19], [14, 15, 16, 17, 18, 19], [15, 16, 17, 18, 19], [16, 17, 18, 19], [17, 18, 19], [18, 19], [19], []] (by kernel_rfl) rfl ?_
      refine any_take (i := 0) (by kernel_rfl) rfl rfl (by decide) (fun _ _ _ _ _ h => h) rfl (rd_move rfl) ?_
      refine any_take (i := 1) (by kernel_rfl) rfl rfl (by decide) (fun _ _ _ _ _ h => h) rfl (rd_nilCheck rfl) ?_
      first | refine any_take (i := 2) (by kernel_rfl) rfl rfl (by decide) (fun _ _ _ _ _ h => h) rfl (rd_fieldAddr0 rfl fld194_2) ?_ | refine any_take (i := 2) (by kernel_rfl) rfl rfl (by decide) (fun _ _ _ _ _ h => h) rfl (rd_fieldAddr rfl fld194_2) ?_
      refine any_take (i := 3) (by kernel_rfl) rfl rfl (by decide) (fun _ _ _ _ _ h => h) rfl (rd_load rfl row25 (cells_pts1 (by repeat (first | with_reducible exact Sel.head | apply Sel.tail)) rfl)) ?_
      refine any_take (i := 4) (by kernel_rfl) rfl rfl (by decide) (fun _ _ _ _ _ h => h) rfl ((rd_eq rfl rfl).eq (show _ = Value.bool false by simp)) ?_
      refine any_take (i := 5) (by kernel_rfl) rfl rfl (by decide) (fun _ _ _ _ _ h => h) rfl (rd_move rfl) ?_
      first | refine any_skip (i := 6) (by kernel_rfl) rfl rfl (by decide) (fun _ _ _ _ _ h => h) rfl ?_ | refine any_take (i := 6) (by kernel_rfl) rfl rfl (by decide) (fun _ _ _ _ _ h => h) rfl (rd_move rfl) ?_
      first | refine any_skip (i := 7) (by kernel_rfl) rfl rfl (by decide) (fun _ _ _ _ _ h => h) rfl ?_ | refine any_take (i := 7) (by kernel_rfl) rfl rfl (by decide) (fun _ _ _ _ _ h => h) rfl (rd_move rfl) ?_
      first | refine any_skip (i := 8) (by kernel_rfl) rfl rfl (by decide) (fun _ _ _ _ _ h => h) rfl ?_ | refine any_take (i := 8) (by kernel_rfl) rfl rfl (by decide) (fun _ _ _ _ _ h => h) rfl (rd_nilCheck rfl) ?_
      first | refine any_skip (i := 9) (by kernel_rfl) rfl rfl (by decide) (fun _ _ _ _ _ h => h) rfl ?_ | refine any_take (i := 9) (by kernel_rfl) rfl rfl (by decide) (fun _ _ _ _ _ h => h) rfl (rd_fieldAddr0 rfl fld194_0) ?_ | refine any_take (i := 9) (by kernel_rfl) rfl rfl (by decide) (fun _ _ _ _ _ h => h) rfl (rd_fieldAddr rfl fld194_0) ?_
      first | refine any_skip (i := 10) (by kernel_rfl) rfl rfl (by decide) (fun _ _ _ _ _ h => h) rfl ?_ | refine any_take (i := 10) (by kernel_rfl) rfl rfl (by decide) (fun _ _ _ _ _ h => h) rfl (rd_load rfl row26 (cells_pts1 (by repeat (first | with_reducible exact Sel.head | apply Sel.tail)) rfl)) ?_
      first | refine any_skip (i := 11) (by kernel_rfl) rfl rfl (by decide) (fun _ _ _ _ _ h => h) rfl ?_ | refine any_take (i := 11) (by kernel_rfl) rfl rfl (by decide) (fun _ _ _ _ _ h => h) rfl (rd_len Try.underlying26 rfl) ?_
      first | refine any_skip (i := 12) (by kernel_rfl) rfl rfl (by decide) (fun _ _ _ _ _ h => h) rfl ?_ | refine any_take (i := 12) (by kernel_rfl) rfl rfl (by decide) (fun _ _ _ _ _ h => h) rfl (rd_move rfl) ?_
      first | refine any_skip (i := 13) (by kernel_rfl) rfl rfl (by decide) (fun _ _ _ _ _ h => h) rfl ?_ | refine any_take (i := 13) (by kernel_rfl) rfl rfl (by decide) (fun _ _ _ _ _ h => h) rfl (rd_nilCheck rfl) ?_
      first | refine any_skip (i := 14) (by kernel_rfl) rfl rfl (by decide) (fun _ _ _ _ _ h => h) rfl ?_ | refine any_take (i := 14) (by kernel_rfl) rfl rfl (by decide) (fun _ _ _ _ _ h => h) rfl (rd_fieldAddr0 rfl fld194_1) ?_ | refine any_take (i := 14) (by kernel_rfl) rfl rfl (by decide) (fun _ _ _ _ _ h => h) rfl (rd_fieldAddr rfl fld194_1) ?_
      first | refine any_skip (i := 15) (by kernel_rfl) rfl rfl (by decide) (fun _ _ _ _ _ h => h) rfl ?_ | refine any_take (i := 15) (by kernel_rfl) rfl rfl (by decide) (fun _ _ _ _ _ h => h) rfl (rd_load rfl row3 (cells_pts1 (by repeat (first | with_reducible exact Sel.head | apply Sel.tail)) rfl)) ?_
      first | refine any_skip (i := 16) (by kernel_rfl) rfl rfl (by decide) (fun _ _ _ _ _ h => h) rfl ?_ | refine any_take (i := 16) (by kernel_rfl) rfl rfl (by decide) (fun _ _ _ _ _ h => h) rfl ((rd_sub rfl rfl).eq (congrArg (Value.int .i64) (IntWalk.i64_in _ (by omega)))) ?_ | refine any_take (i := 16) (by kernel_rfl) rfl rfl (by decide) (fun _ _ _ _ _ h => h) rfl (rd_sub rfl rfl) ?_
      first | refine any_skip (i := 17) (by kernel_rfl) rfl rfl (by decide) (fun _ _ _ _ _ h => h) rfl ?_ | refine any_take (i := 17) (by kernel_rfl) rfl rfl (by decide) (fun _ _ _ _ _ h => h) rfl ((rd_conv Try.underlying3 Try.underlying183 rfl).eq (congrArg (Value.int .u64) (IntWalk.u64_in _ (by omega)))) ?_ | refine any_take (i := 17) (by kernel_rfl) rfl rfl (by decide) (fun _ _ _ _ _ h => h) rfl (rd_conv Try.underlying3 Try.underlying183 rfl) ?_
      first | refine any_skip (i := 18) (by kernel_rfl) rfl rfl (by decide) (fun _ _ _ _ _ h => h) rfl ?_ | refine any_take (i := 18) (by kernel_rfl) rfl rfl (by decide) (fun _ _ _ _ _ h => h) rfl (rd_gt rfl rfl) ?_
      first | refine any_take (i := 19) (by kernel_rfl) rfl rfl (by decide) (fun _ _ _ _ _ h => h) rfl (rd_pick_t rfl rfl) ?_ | refine any_take (i := 19) (by kernel_rfl) rfl rfl (by decide) (fun _ _ _ _ _ h => h) rfl (rd_pick_f rfl rfl) ?_
      refine any_nil (by kernel_rfl) ?_
      refine St.keep (β' := [(0, _), (5, _), (6, _), (50, _)]) ⟨rfl, rfl, rfl, rfl, trivial⟩ ?_
      refine St.then_n ?_
      refine do_cond_f rfl ?_
      refine do_skip ?_
      refine St.then_n ?_
      refine do_seq ?_
      refine do_seq ?_
      refine do_region ?_
      refine run_read rfl (by decide) (fun _ => nofun) (rd_move rfl) ?_
      refine run_read rfl (by decide) (fun _ => nofun) (rd_nilCheck rfl) ?_
      first | refine run_read rfl (by decide) (fun _ => nofun) (rd_fieldAddr0 rfl fld194_2) ?_ | refine run_read rfl (by decide) (fun _ => nofun) (rd_fieldAddr rfl fld194_2) ?_
      refine run_read rfl (by decide) (fun _ => nofun) (rd_load rfl row25 (cells_pts1 (by repeat (first | with_reducible exact Sel.head | apply Sel.tail)) rfl)) ?_
      refine run_read rfl (by decide) (fun _ => nofun) (rd_ne rfl rfl) ?_
      refine run_nil ?_
      refine St.keep (β' := [(0, _), (5, _), (6, _), (58, _)]) ⟨rfl, rfl, rfl, rfl, trivial⟩ ?_
      refine St.then_n ?_
      refine do_condp rfl (fun h58 => ?_) (fun h58 => absurd (by omega) h58)
      refine do_seq ?_
      refine do_region ?_
      refine run_read rfl (by decide) (fun _ => nofun) (rd_move rfl) ?_
      refine run_read rfl (by decide) (fun _ => nofun) (rd_move rfl) ?_
      refine run_read rfl (by decide) (fun _ => nofun) (rd_nilCheck rfl) ?_
      first | refine run_read rfl (by decide) (fun _ => nofun) (rd_fieldAddr0 rfl fld194_1) ?_ | refine run_read rfl (by decide) (fun _ => nofun) (rd_fieldAddr rfl fld194_1) ?_
      refine run_store rfl rfl rfl (by repeat (first | with_reducible exact Sel.head | apply Sel.tail)) row3 rfl rfl (by simp only [List.set_cons_succ, List.set_cons_zero]; exact rfl) ?_
      refine run_nil ?_
      refine St.keep (β' := []) trivial ?_
      refine St.then_n ?_
      refine do_seq ?_
      refine do_region ?_
      refine run_read rfl (by decide) (fun _ => nofun) (rd_assign rfl) ?_
      refine run_nil ?_
      refine St.then_n ?_
      refine do_ret ?_
      refine St.then_r ?_
      refine do_ret1 Try.results129 (res_tmp rfl) ?_
      intro w hw
      exact ⟨(), trivial, rfl, Holds.rd_shut (A := A) (cap := cap) ⟨s.at_, 3⟩ (by repeat (first | exact Pick.nil | apply Pick.cons (by repeat (first | with_reducible exact Sel.head | apply Sel.tail)))) hw⟩
    · by_cases h3 : B.length - s1.at_ < n
      · rw [ks (hwy h1) h1 h2 h3]
        refine do_seq ?_
        refine do_region ?_
        refine run_read rfl (by decide) (fun _ => nofun) (rd_assign rfl) ?_
        refine run_nil ?_
        refine St.then_n ?_
        refine do_seq ?_
        refine do_region ?_
        refine St.sel (P := rdO 194 r B s) (by repeat (first | with_reducible exact Sel.head | apply Sel.tail)) (St.rd_open fun A cap => ?_)
        refine run_read rfl (by decide) (fun _ => nofun) (rd_move rfl) ?_
        refine run_read rfl (by decide) (fun _ => nofun) (rd_nilCheck rfl) ?_
        first | refine run_read rfl (by decide) (fun _ => nofun) (rd_fieldAddr0 rfl fld194_1) ?_ | refine run_read rfl (by decide) (fun _ => nofun) (rd_fieldAddr rfl fld194_1) ?_
        refine run_read rfl (by decide) (fun _ => nofun) (rd_load rfl row3 (cells_pts1 (by repeat (first | with_reducible exact Sel.head | apply Sel.tail)) rfl)) ?_
        refine run_read rfl (by decide) (fun _ => nofun) (rd_assign rfl) ?_
        refine run_nil ?_
        refine St.keep (β' := [(0, _), (1, _), (5, _)]) ⟨rfl, rfl, rfl, trivial⟩ ?_
        refine St.then_n ?_
        refine do_seq ?_
        refine do_region ?_
        refine St.rd_shut (A := A) (cap := cap) s (by repeat (first | exact Pick.nil | apply Pick.cons (by repeat (first | with_reducible exact Sel.head | apply Sel.tail)))) ?_
        refine run_read rfl (by decide) (fun _ => nofun) (rd_move rfl) ?_
        refine run_spec rfl (by decide) (by kernel_rfl) rfl (by repeat (first | exact Pick.nil | apply Pick.cons (by repeat (first | with_reducible exact Sel.head | apply Sel.tail)))) (refRdUint_spec _ hs hl) ?_
        rintro ⟨⟩ -
        rw [hr]
        dsimp only
        try simp only [List.cons_append, List.nil_append]
        refine run_read rfl (by decide) (fun _ => nofun) (rd_assign rfl) ?_
        refine run_nil ?_
        refine St.then_n ?_
        refine do_seq ?_
        refine do_seq ?_
        refine do_region ?_
        refine St.sel (P := rdO 194 r B s1) (by repeat (first | with_reducible exact Sel.head | apply Sel.tail)) (St.rd_open fun A cap => ?_)
        refine run_read rfl (by decide) (fun _ => nofun) (rd_move rfl) ?_
        refine run_read rfl (by decide) (fun _ => nofun) (rd_nilCheck rfl) ?_
        first | refine run_read rfl (by decide) (fun _ => nofun) (rd_fieldAddr0 rfl fld194_2) ?_ | refine run_read rfl (by decide) (fun _ => nofun) (rd_fieldAddr rfl fld194_2) ?_
        refine run_read rfl (by decide) (fun _ => nofun) (rd_load rfl row25 (cells_pts1 (by repeat (first | with_reducible exact Sel.head | apply Sel.tail)) rfl)) ?_
        refine run_read rfl (by decide) (fun _ => nofun) ((rd_eq rfl rfl).eq (show _ = Value.bool true by simp; omega)) ?_
        refine run_read rfl (by decide) (fun _ => nofun) (rd_move rfl) ?_
        first | (refine run_skip rfl rfl ?_) | (refine run_read rfl (by decide) (fun _ => nofun) (rd_move rfl) ?_)
        first | (refine run_skip rfl rfl ?_) | (refine run_read rfl (by decide) (fun _ => nofun) ((rd_lt rfl rfl).eq (show _ = Value.bool false by simp)) ?_)
        first | (refine run_skip rfl rfl ?_) | (refine run_read rfl (by decide) (fun _ => nofun) (rd_move rfl) ?_)
        first | (refine run_skip rfl rfl ?_) | (refine run_read rfl (by decide) (fun _ => nofun) (rd_move rfl) ?_)
        first | (refine run_skip rfl rfl ?_) | (refine run_read rfl (by decide) (fun _ => nofun) (rd_move rfl) ?_)
        first | (refine run_skip rfl rfl ?_) | (first | refine run_read rfl (by decide) (fun _ => nofun) ((rd_conv Try.underlying3 Try.underlying183 rfl).eq (congrArg (Value.int .u64) (IntWalk.u64_in _ (by omega)))) ?_ | refine run_read rfl (by decide) (fun _ => nofun) (rd_conv Try.underlying3 Try.underlying183 rfl) ?_)
        first | (refine run_skip rfl rfl ?_) | (refine run_read rfl (by decide) (fun _ => nofun) (rd_gt rfl rfl) ?_)
        first | (refine run_skip rfl rfl ?_) | (first | refine run_read rfl (by decide) (fun _ => nofun) (rd_pick_t rfl rfl) ?_ | refine run_read rfl (by decide) (fun _ => nofun) (rd_pick_f rfl rfl) ?_)
        first | refine run_read rfl (by decide) (fun _ => nofun) (rd_pick_t rfl rfl) ?_ | refine run_read rfl (by decide) (fun _ => nofun) (rd_pick_f rfl rfl) ?_
        refine run_nil ?_
        refine St.keep (β' := [(0, _), (5, _), (6, _), (27, _)]) ⟨rfl, rfl, rfl, rfl, trivial⟩ ?_
        refine St.then_n ?_
        refine do_condp rfl (fun h27 => absurd h27 (by omega)) (fun h27 => ?_)
        refine do_skip ?_
        refine St.then_n ?_
        refine do_seq ?_
        refine do_seq ?_
        refine do_draw [[1, 2, 3, 4, 5, 6, 7, 8, 9, 10, 11, 12, 13, 14, 15, 16, 17, 18, 19], [2, 3, 4, 5, 6, 7, 8, 9, 10, 11, 12, 13, 14, 15, 16, 17, 18, 19], [3, 4, 5, 6, 7, 8, 9, 10, 11, 12, 13, 14, 15, 16, 17, 18, 19], [4, 5, 6, 7, 8, 9, 10, 11, 12, 13, 14, 15, 16, 17, 18, 19], [5, 6, 7, 8, 9, 10, 11, 12, 13, 14, 15, 16, 17, 18, 19], [6, 7, 8, 9, 10, 11, 12, 13, 14, 15, 16, 17, 18, 19], [18, 19], [8, 9, 10, 11, 16, 17, 18, 19], [9, 10, 11, 16, 17, 18, 19], [10, 11, 16, 17, 18, 19], [11, 16, 17, 18, 19], [16, 17, 18, 19], [13, 14, 15, 16, 17, 18, 19], [14, 15, 16, 17, 18, 19], [15, 16, 17, 18, 19], [16, 17, 18, 19], [17, 18, 19], [18, 19], [19], []] (by kernel_rfl) rfl ?_
        refine any_take (i := 0) (by kernel_rfl) rfl rfl (by decide) (fun _ _ _ _ _ h => h) rfl (rd_move rfl) ?_
        refine any_take (i := 1) (by kernel_rfl) rfl rfl (by decide) (fun _ _ _ _ _ h => h) rfl (rd_nilCheck rfl) ?_
        first | refine any_take (i := 2) (by kernel_rfl) rfl rfl (by decide) (fun _ _ _ _ _ h => h) rfl (rd_fieldAddr0 rfl fld194_2) ?_ | refine any_take (i := 2) (by kernel_rfl) rfl rfl (by decide) (fun _ _ _ _ _ h => h) rfl (rd_fieldAddr rfl fld194_2) ?_
        refine any_take (i := 3) (by kernel_rfl) rfl rfl (by decide) (fun _ _ _ _ _ h => h) rfl (rd_load rfl row25 (cells_pts1 (by repeat (first | with_reducible exact Sel.head | apply Sel.tail)) rfl)) ?_
        refine any_take (i := 4) (by kernel_rfl) rfl rfl (by decide) (fun _ _ _ _ _ h => h) rfl ((rd_eq rfl rfl).eq (show _ = Value.bool true by simp; omega)) ?_
        refine any_take (i := 5) (by kernel_rfl) rfl rfl (by decide) (fun _ _ _ _ _ h => h) rfl (rd_move rfl) ?_
        first | refine any_skip (i := 6) (by kernel_rfl) rfl rfl (by decide) (fun _ _ _ _ _ h => h) rfl ?_ | refine any_take (i := 6) (by kernel_rfl) rfl rfl (by decide) (fun _ _ _ _ _ h => h) rfl (rd_move rfl) ?_
        first | refine any_skip (i := 7) (by kernel_rfl) rfl rfl (by decide) (fun _ _ _ _ _ h => h) rfl ?_ | refine any_take (i := 7) (by kernel_rfl) rfl rfl (by decide) (fun _ _ _ _ _ h => h) rfl (rd_move rfl) ?_
        first | refine any_skip (i := 8) (by kernel_rfl) rfl rfl (by decide) (fun _ _ _ _ _ h => h) rfl ?_ | refine any_take (i := 8) (by kernel_rfl) rfl rfl (by decide) (fun _ _ _ _ _ h => h) rfl (rd_nilCheck rfl) ?_
        first | refine any_skip (i := 9) (by kernel_rfl) rfl rfl (by decide) (fun _ _ _ _ _ h => h) rfl ?_ | refine any_take (i := 9) (by kernel_rfl) rfl rfl (by decide) (fun _ _ _ _ _ h => h) rfl (rd_fieldAddr0 rfl fld194_0) ?_ | refine any_take (i := 9) (by kernel_rfl) rfl rfl (by decide) (fun _ _ _ _ _ h => h) rfl (rd_fieldAddr rfl fld194_0) ?_
        first | refine any_skip (i := 10) (by kernel_rfl) rfl rfl (by decide) (fun _ _ _ _ _ h => h) rfl ?_ | refine any_take (i := 10) (by kernel_rfl) rfl rfl (by decide) (fun _ _ _ _ _ h => h) rfl (rd_load rfl row26 (cells_pts1 (by repeat (first | with_reducible exact Sel.head | apply Sel.tail)) rfl)) ?_
        first | refine any_skip (i := 11) (by kernel_rfl) rfl rfl (by decide) (fun _ _ _ _ _ h => h) rfl ?_ | refine any_take (i := 11) (by kernel_rfl) rfl rfl (by decide) (fun _ _ _ _ _ h => h) rfl (rd_len Try.underlying26 rfl) ?_
        first | refine any_skip (i := 12) (by kernel_rfl) rfl rfl (by decide) (fun _ _ _ _ _ h => h) rfl ?_ | refine any_take (i := 12) (by kernel_rfl) rfl rfl (by decide) (fun _ _ _ _ _ h => h) rfl (rd_move rfl) ?_
        first | refine any_skip (i := 13) (by kernel_rfl) rfl rfl (by decide) (fun _ _ _ _ _ h => h) rfl ?_ | refine any_take (i := 13) (by kernel_rfl) rfl rfl (by decide) (fun _ _ _ _ _ h => h) rfl (rd_nilCheck rfl) ?_
        first | refine any_skip (i := 14) (by kernel_rfl) rfl rfl (by decide) (fun _ _ _ _ _ h => h) rfl ?_ | refine any_take (i := 14) (by kernel_rfl) rfl rfl (by decide) (fun _ _ _ _ _ h => h) rfl (rd_fieldAddr0 rfl fld194_1) ?_ | refine any_take (i := 14) (by kernel_rfl) rfl rfl (by decide) (fun _ _ _ _ _ h => h) rfl (rd_fieldAddr rfl fld194_1) ?_
        first | refine any_skip (i := 15) (by kernel_rfl) rfl rfl (by decide) (fun _ _ _ _ _ h => h) rfl ?_ | refine any_take (i := 15) (by kernel_rfl) rfl rfl (by decide) (fun _ _ _ _ _ h => h) rfl (rd_load rfl row3 (cells_pts1 (by repeat (first | with_reducible exact Sel.head | apply Sel.tail)) rfl)) ?_
        first | refine any_skip (i := 16) (by kernel_rfl) rfl rfl (by decide) (fun _ _ _ _ _ h => h) rfl ?_ | refine any_take (i := 16) (by kernel_rfl) rfl rfl (by decide) (fun _ _ _ _ _ h => h) rfl ((rd_sub rfl rfl).eq (congrArg (Value.int .i64) (IntWalk.i64_in _ (by omega)))) ?_ | refine any_take (i := 16) (by kernel_rfl) rfl rfl (by decide) (fun _ _ _ _ _ h => h) rfl (rd_sub rfl rfl) ?_
        first | refine any_skip (i := 17) (by kernel_rfl) rfl rfl (by decide) (fun _ _ _ _ _ h => h) rfl ?_ | refine any_take (i := 17) (by kernel_rfl) rfl rfl (by decide) (fun _ _ _ _ _ h => h) rfl ((rd_conv Try.underlying3 Try.underlying183 rfl).eq (congrArg (Value.int .u64) (IntWalk.u64_in _ (by omega)))) ?_ | refine any_take (i := 17) (by kernel_rfl) rfl rfl (by decide) (fun _ _ _ _ _ h => h) rfl (rd_conv Try.underlying3 Try.underlying183 rfl) ?_
        first | refine any_skip (i := 18) (by kernel_rfl) rfl rfl (by decide) (fun _ _ _ _ _ h => h) rfl ?_ | refine any_take (i := 18) (by kernel_rfl) rfl rfl (by decide) (fun _ _ _ _ _ h => h) rfl (rd_gt rfl rfl) ?_
        first | refine any_take (i := 19) (by kernel_rfl) rfl rfl (by decide) (fun _ _ _ _ _ h => h) rfl (rd_pick_t rfl rfl) ?_ | refine any_take (i := 19) (by kernel_rfl) rfl rfl (by decide) (fun _ _ _ _ _ h => h) rfl (rd_pick_f rfl rfl) ?_
        refine any_nil (by kernel_rfl) ?_
        refine St.keep (β' := [(0, _), (5, _), (6, _), (50, _)]) ⟨rfl, rfl, rfl, rfl, trivial⟩ ?_
        refine St.then_n ?_
        refine do_condp rfl (fun h50 => ?_) (fun h50 => absurd (by omega) h50)
        refine do_region ?_
        refine run_read rfl (by decide) (fun _ => nofun) (rd_move rfl) ?_
        refine run_read rfl (by decide) (fun _ => nofun) (rd_nilCheck rfl) ?_
        first | refine run_read rfl (by decide) (fun _ => nofun) (rd_fieldAddr0 rfl fld194_2) ?_ | refine run_read rfl (by decide) (fun _ => nofun) (rd_fieldAddr rfl fld194_2) ?_
        refine run_store rfl rfl rfl (by repeat (first | with_reducible exact Sel.head | apply Sel.tail)) row25 rfl rfl (by simp only [List.set_cons_succ, List.set_cons_zero]; exact rfl) ?_
        refine run_nil ?_
        refine St.keep (β' := [(0, _), (5, _), (6, _)]) ⟨rfl, rfl, rfl, trivial⟩ ?_
        refine St.then_n ?_
        refine do_seq ?_
        refine do_seq ?_
        refine do_region ?_
        refine run_read rfl (by decide) (fun _ => nofun) (rd_move rfl) ?_
        refine run_read rfl (by decide) (fun _ => nofun) (rd_nilCheck rfl) ?_
        first | refine run_read rfl (by decide) (fun _ => nofun) (rd_fieldAddr0 rfl fld194_2) ?_ | refine run_read rfl (by decide) (fun _ => nofun) (rd_fieldAddr rfl fld194_2) ?_
        refine run_read rfl (by decide) (fun _ => nofun) (rd_load rfl row25 (cells_pts1 (by repeat (first | with_reducible exact Sel.head | apply Sel.tail)) rfl)) ?_
        refine run_read rfl (by decide) (fun _ => nofun) (rd_ne rfl rfl) ?_
        refine run_nil ?_
        refine St.keep (β' := [(0, _), (5, _), (6, _), (58, _)]) ⟨rfl, rfl, rfl, rfl, trivial⟩ ?_
        refine St.then_n ?_
        refine do_condp rfl (fun h58 => ?_) (fun h58 => absurd (by omega) h58)
        refine do_seq ?_
        refine do_region ?_
        refine run_read rfl (by decide) (fun _ => nofun) (rd_move rfl) ?_
        refine run_read rfl (by decide) (fun _ => nofun) (rd_move rfl) ?_
        refine run_read rfl (by decide) (fun _ => nofun) (rd_nilCheck rfl) ?_
        first | refine run_read rfl (by decide) (fun _ => nofun) (rd_fieldAddr0 rfl fld194_1) ?_ | refine run_read rfl (by decide) (fun _ => nofun) (rd_fieldAddr rfl fld194_1) ?_
        refine run_store rfl rfl rfl (by repeat (first | with_reducible exact Sel.head | apply Sel.tail)) row3 rfl rfl (by simp only [List.set_cons_succ, List.set_cons_zero]; exact rfl) ?_
        refine run_nil ?_
        refine St.keep (β' := []) trivial ?_
        refine St.then_n ?_
        refine do_seq ?_
        refine do_region ?_
        refine run_read rfl (by decide) (fun _ => nofun) (rd_assign rfl) ?_
        refine run_nil ?_
        refine St.then_n ?_
        refine do_ret ?_
        refine St.then_r ?_
        refine do_ret1 Try.results129 (res_tmp rfl) ?_
        intro w hw
        exact ⟨(), trivial, rfl, Holds.rd_shut (A := A) (cap := cap) ⟨s.at_, 10⟩ (by repeat (first | exact Pick.nil | apply Pick.cons (by repeat (first | with_reducible exact Sel.head | apply Sel.tail)))) hw⟩
      · rw [ko (hwy h1) h1 h2 h3]
        refine do_seq ?_
        refine do_region ?_
        refine run_read rfl (by decide) (fun _ => nofun) (rd_assign rfl) ?_
        refine run_nil ?_
        refine St.then_n ?_
        refine do_seq ?_
        refine do_region ?_
        refine St.sel (P := rdO 194 r B s) (by repeat (first | with_reducible exact Sel.head | apply Sel.tail)) (St.rd_open fun A cap => ?_)
        refine run_read rfl (by decide) (fun _ => nofun) (rd_move rfl) ?_
        refine run_read rfl (by decide) (fun _ => nofun) (rd_nilCheck rfl) ?_
        first | refine run_read rfl (by decide) (fun _ => nofun) (rd_fieldAddr0 rfl fld194_1) ?_ | refine run_read rfl (by decide) (fun _ => nofun) (rd_fieldAddr rfl fld194_1) ?_
        refine run_read rfl (by decide) (fun _ => nofun) (rd_load rfl row3 (cells_pts1 (by repeat (first | with_reducible exact Sel.head | apply Sel.tail)) rfl)) ?_
        refine run_read rfl (by decide) (fun _ => nofun) (rd_assign rfl) ?_
        refine run_nil ?_
        refine St.keep (β' := [(0, _), (1, _), (5, _)]) ⟨rfl, rfl, rfl, trivial⟩ ?_
        refine St.then_n ?_
        refine do_seq ?_
        refine do_region ?_
        refine St.rd_shut (A := A) (cap := cap) s (by repeat (first | exact Pick.nil | apply Pick.cons (by repeat (first | with_reducible exact Sel.head | apply Sel.tail)))) ?_
        refine run_read rfl (by decide) (fun _ => nofun) (rd_move rfl) ?_
        refine run_spec rfl (by decide) (by kernel_rfl) rfl (by repeat (first | exact Pick.nil | apply Pick.cons (by repeat (first | with_reducible exact Sel.head | apply Sel.tail)))) (refRdUint_spec _ hs hl) ?_
        rintro ⟨⟩ -
        rw [hr]
        dsimp only
        try simp only [List.cons_append, List.nil_append]
        refine run_read rfl (by decide) (fun _ => nofun) (rd_assign rfl) ?_
        refine run_nil ?_
        refine St.then_n ?_
        refine do_seq ?_
        refine do_seq ?_
        refine do_region ?_
        refine St.sel (P := rdO 194 r B s1) (by repeat (first | with_reducible exact Sel.head | apply Sel.tail)) (St.rd_open fun A cap => ?_)
        refine run_read rfl (by decide) (fun _ => nofun) (rd_move rfl) ?_
        refine run_read rfl (by decide) (fun _ => nofun) (rd_nilCheck rfl) ?_
        first | refine run_read rfl (by decide) (fun _ => nofun) (rd_fieldAddr0 rfl fld194_2) ?_ | refine run_read rfl (by decide) (fun _ => nofun) (rd_fieldAddr rfl fld194_2) ?_
        refine run_read rfl (by decide) (fun _ => nofun) (rd_load rfl row25 (cells_pts1 (by repeat (first | with_reducible exact Sel.head | apply Sel.tail)) rfl)) ?_
        refine run_read rfl (by decide) (fun _ => nofun) ((rd_eq rfl rfl).eq (show _ = Value.bool true by simp; omega)) ?_
        refine run_read rfl (by decide) (fun _ => nofun) (rd_move rfl) ?_
        first | (refine run_skip rfl rfl ?_) | (refine run_read rfl (by decide) (fun _ => nofun) (rd_move rfl) ?_)
        first | (refine run_skip rfl rfl ?_) | (refine run_read rfl (by decide) (fun _ => nofun) ((rd_lt rfl rfl).eq (show _ = Value.bool false by simp)) ?_)
        first | (refine run_skip rfl rfl ?_) | (refine run_read rfl (by decide) (fun _ => nofun) (rd_move rfl) ?_)
        first | (refine run_skip rfl rfl ?_) | (refine run_read rfl (by decide) (fun _ => nofun) (rd_move rfl) ?_)
        first | (refine run_skip rfl rfl ?_) | (refine run_read rfl (by decide) (fun _ => nofun) (rd_move rfl) ?_)
        first | (refine run_skip rfl rfl ?_) | (first | refine run_read rfl (by decide) (fun _ => nofun) ((rd_conv Try.underlying3 Try.underlying183 rfl).eq (congrArg (Value.int .u64) (IntWalk.u64_in _ (by omega)))) ?_ | refine run_read rfl (by decide) (fun _ => nofun) (rd_conv Try.underlying3 Try.underlying183 rfl) ?_)
        first | (refine run_skip rfl rfl ?_) | (refine run_read rfl (by decide) (fun _ => nofun) (rd_gt rfl rfl) ?_)
        first | (refine run_skip rfl rfl ?_) | (first | refine run_read rfl (by decide) (fun _ => nofun) (rd_pick_t rfl rfl) ?_ | refine run_read rfl (by decide) (fun _ => nofun) (rd_pick_f rfl rfl) ?_)
        first | refine run_read rfl (by decide) (fun _ => nofun) (rd_pick_t rfl rfl) ?_ | refine run_read rfl (by decide) (fun _ => nofun) (rd_pick_f rfl rfl) ?_
        refine run_nil ?_
        refine St.keep (β' := [(0, _), (5, _), (6, _), (27, _)]) ⟨rfl, rfl, rfl, rfl, trivial⟩ ?_
        refine St.then_n ?_
        refine do_condp rfl (fun h27 => absurd h27 (by omega)) (fun h27 => ?_)
        refine do_skip ?_
        refine St.then_n ?_
        refine do_seq ?_
        refine do_seq ?_
        refine do_draw [[1, 2, 3, 4, 5, 6, 7, 8, 9, 10, 11, 12, 13, 14, 15, 16, 17, 18, 19], [2, 3, 4, 5, 6, 7, 8, 9, 10, 11, 12, 13, 14, 15, 16, 17, 18, 19], [3, 4, 5, 6, 7, 8, 9, 10, 11, 12, 13, 14, 15, 16, 17, 18, 19], [4, 5, 6, 7, 8, 9, 10, 11, 12, 13, 14, 15, 16, 17, 18, 19], [5, 6, 7, 8, 9, 10, 11, 12, 13, 14, 15, 16, 17, 18, 19], [6, 7, 8, 9, 10, 11, 12, 13, 14, 15, 16, 17, 18, 19], [18, 19], [8, 9, 10, 11, 16, 17, 18, 19], [9, 10, 11, 16, 17, 18, 19], [10, 11, 16, 17, 18, 19], [11, 16, 17, 18, 19], [16, 17, 18, 19], [13, 14, 15, 16, 17, 18, 19], [14, 15, 16, 17, 18, 19], [15, 16, 17, 18, 19], [16, 17, 18, 19], [17, 18, 19], [18, 19], [19], []] (by kernel_rfl) rfl ?_
        refine any_take (i := 0) (by kernel_rfl) rfl rfl (by decide) (fun _ _ _ _ _ h => h) rfl (rd_move rfl) ?_
        refine any_take (i := 1) (by kernel_rfl) rfl rfl (by decide) (fun _ _ _ _ _ h => h) rfl (rd_nilCheck rfl) ?_
        first | refine any_take (i := 2) (by kernel_rfl) rfl rfl (by decide) (fun _ _ _ _ _ h => h) rfl (rd_fieldAddr0 rfl fld194_2) ?_ | refine any_take (i := 2) (by kernel_rfl) rfl rfl (by decide) (fun _ _ _ _ _ h => h) rfl (rd_fieldAddr rfl fld194_2) ?_
        refine any_take (i := 3) (by kernel_rfl) rfl rfl (by decide) (fun _ _ _ _ _ h => h) rfl (rd_load rfl row25 (cells_pts1 (by repeat (first | with_reducible exact Sel.head | apply Sel.tail)) rfl)) ?_
        refine any_take (i := 4) (by kernel_rfl) rfl rfl (by decide) (fun _ _ _ _ _ h => h) rfl ((rd_eq rfl rfl).eq (show _ = Value.bool true by simp; omega)) ?_
        refine any_take (i := 5) (by kernel_rfl) rfl rfl (by decide) (fun _ _ _ _ _ h => h) rfl (rd_move rfl) ?_
        first | refine any_skip (i := 6) (by kernel_rfl) rfl rfl (by decide) (fun _ _ _ _ _ h => h) rfl ?_ | refine any_take (i := 6) (by kernel_rfl) rfl rfl (by decide) (fun _ _ _ _ _ h => h) rfl (rd_move rfl) ?_
        first | refine any_skip (i := 7) (by kernel_rfl) rfl rfl (by decide) (fun _ _ _ _ _ h => h) rfl ?_ | refine any_take (i := 7) (by kernel_rfl) rfl rfl (by decide) (fun _ _ _ _ _ h => h) rfl (rd_move rfl) ?_
        first | refine any_skip (i := 8) (by kernel_rfl) rfl rfl (by decide) (fun _ _ _ _ _ h => h) rfl ?_ | refine any_take (i := 8) (by kernel_rfl) rfl rfl (by decide) (fun _ _ _ _ _ h => h) rfl (rd_nilCheck rfl) ?_
        first | refine any_skip (i := 9) (by kernel_rfl) rfl rfl (by decide) (fun _ _ _ _ _ h => h) rfl ?_ | refine any_take (i := 9) (by kernel_rfl) rfl rfl (by decide) (fun _ _ _ _ _ h => h) rfl (rd_fieldAddr0 rfl fld194_0) ?_ | refine any_take (i := 9) (by kernel_rfl) rfl rfl (by decide) (fun _ _ _ _ _ h => h) rfl (rd_fieldAddr rfl fld194_0) ?_
        first | refine any_skip (i := 10) (by kernel_rfl) rfl rfl (by decide) (fun _ _ _ _ _ h => h) rfl ?_ | refine any_take (i := 10) (by kernel_rfl) rfl rfl (by decide) (fun _ _ _ _ _ h => h) rfl (rd_load rfl row26 (cells_pts1 (by repeat (first | with_reducible exact Sel.head | apply Sel.tail)) rfl)) ?_
        first | refine any_skip (i := 11) (by kernel_rfl) rfl rfl (by decide) (fun _ _ _ _ _ h => h) rfl ?_ | refine any_take (i := 11) (by kernel_rfl) rfl rfl (by decide) (fun _ _ _ _ _ h => h) rfl (rd_len Try.underlying26 rfl) ?_
        first | refine any_skip (i := 12) (by kernel_rfl) rfl rfl (by decide) (fun _ _ _ _ _ h => h) rfl ?_ | refine any_take (i := 12) (by kernel_rfl) rfl rfl (by decide) (fun _ _ _ _ _ h => h) rfl (rd_move rfl) ?_
        first | refine any_skip (i := 13) (by kernel_rfl) rfl rfl (by decide) (fun _ _ _ _ _ h => h) rfl ?_ | refine any_take (i := 13) (by kernel_rfl) rfl rfl (by decide) (fun _ _ _ _ _ h => h) rfl (rd_nilCheck rfl) ?_
        first | refine any_skip (i := 14) (by kernel_rfl) rfl rfl (by decide) (fun _ _ _ _ _ h => h) rfl ?_ | refine any_take (i := 14) (by kernel_rfl) rfl rfl (by decide) (fun _ _ _ _ _ h => h) rfl (rd_fieldAddr0 rfl fld194_1) ?_ | refine any_take (i := 14) (by kernel_rfl) rfl rfl (by decide) (fun _ _ _ _ _ h => h) rfl (rd_fieldAddr rfl fld194_1) ?_
        first | refine any_skip (i := 15) (by kernel_rfl) rfl rfl (by decide) (fun _ _ _ _ _ h => h) rfl ?_ | refine any_take (i := 15) (by kernel_rfl) rfl rfl (by decide) (fun _ _ _ _ _ h => h) rfl (rd_load rfl row3 (cells_pts1 (by repeat (first | with_reducible exact Sel.head | apply Sel.tail)) rfl)) ?_
        first | refine any_skip (i := 16) (by kernel_rfl) rfl rfl (by decide) (fun _ _ _ _ _ h => h) rfl ?_ | refine any_take (i := 16) (by kernel_rfl) rfl rfl (by decide) (fun _ _ _ _ _ h => h) rfl ((rd_sub rfl rfl).eq (congrArg (Value.int .i64) (IntWalk.i64_in _ (by omega)))) ?_ | refine any_take (i := 16) (by kernel_rfl) rfl rfl (by decide) (fun _ _ _ _ _ h => h) rfl (rd_sub rfl rfl) ?_
        first | refine any_skip (i := 17) (by kernel_rfl) rfl rfl (by decide) (fun _ _ _ _ _ h => h) rfl ?_ | refine any_take (i := 17) (by kernel_rfl) rfl rfl (by decide) (fun _ _ _ _ _ h => h) rfl ((rd_conv Try.underlying3 Try.underlying183 rfl).eq (congrArg (Value.int .u64) (IntWalk.u64_in _ (by omega)))) ?_ | refine any_take (i := 17) (by kernel_rfl) rfl rfl (by decide) (fun _ _ _ _ _ h => h) rfl (rd_conv Try.underlying3 Try.underlying183 rfl) ?_
        first | refine any_skip (i := 18) (by kernel_rfl) rfl rfl (by decide) (fun _ _ _ _ _ h => h) rfl ?_ | refine any_take (i := 18) (by kernel_rfl) rfl rfl (by decide) (fun _ _ _ _ _ h => h) rfl (rd_gt rfl rfl) ?_
        first | refine any_take (i := 19) (by kernel_rfl) rfl rfl (by decide) (fun _ _ _ _ _ h => h) rfl (rd_pick_t rfl rfl) ?_ | refine any_take (i := 19) (by kernel_rfl) rfl rfl (by decide) (fun _ _ _ _ _ h => h) rfl (rd_pick_f rfl rfl) ?_
        refine any_nil (by kernel_rfl) ?_
        refine St.keep (β' := [(0, _), (5, _), (6, _), (50, _)]) ⟨rfl, rfl, rfl, rfl, trivial⟩ ?_
        refine St.then_n ?_
        refine do_condp rfl (fun h50 => absurd h50 (by omega)) (fun h50 => ?_)
        refine do_skip ?_
        refine St.then_n ?_
        refine do_seq ?_
        refine do_seq ?_
        refine do_region ?_
        refine run_read rfl (by decide) (fun _ => nofun) (rd_move rfl) ?_
        refine run_read rfl (by decide) (fun _ => nofun) (rd_nilCheck rfl) ?_
        first | refine run_read rfl (by decide) (fun _ => nofun) (rd_fieldAddr0 rfl fld194_2) ?_ | refine run_read rfl (by decide) (fun _ => nofun) (rd_fieldAddr rfl fld194_2) ?_
        refine run_read rfl (by decide) (fun _ => nofun) (rd_load rfl row25 (cells_pts1 (by repeat (first | with_reducible exact Sel.head | apply Sel.tail)) rfl)) ?_
        refine run_read rfl (by decide) (fun _ => nofun) (rd_ne rfl rfl) ?_
        refine run_nil ?_
        refine St.keep (β' := [(0, _), (5, _), (6, _), (58, _)]) ⟨rfl, rfl, rfl, rfl, trivial⟩ ?_
        refine St.then_n ?_
        refine do_condp rfl (fun h58 => absurd h58 (by omega)) (fun h58 => ?_)
        refine do_skip ?_
        refine St.then_n ?_
        refine do_seq ?_
        refine do_region ?_
        refine run_read rfl (by decide) (fun _ => nofun) (rd_move rfl) ?_
        first | refine run_read rfl (by decide) (fun _ => nofun) ((rd_conv Try.underlying183 Try.underlying3 rfl).eq (congrArg (Value.int .i64) (IntWalk.i64_in _ (by omega)))) ?_ | refine run_read rfl (by decide) (fun _ => nofun) (rd_conv Try.underlying183 Try.underlying3 rfl) ?_
        refine run_read rfl (by decide) (fun _ => nofun) (rd_assign rfl) ?_
        refine run_nil ?_
        refine St.keep (β' := [(4, _)]) ⟨rfl, trivial⟩ ?_
        refine St.then_n ?_
        refine do_ret ?_
        refine do_ret1 Try.results129 (res_tmp rfl) ?_
        intro w hw
        exact ⟨(), trivial, rfl, Holds.rd_shut (A := A) (cap := cap) s1 (by repeat (first | exact Pick.nil | apply Pick.cons (by repeat (first | with_reducible exact Sel.head | apply Sel.tail)))) hw⟩
  · rw [kb h1]
    refine do_seq ?_
    refine do_region ?_
    refine run_read rfl (by decide) (fun _ => nofun) (rd_assign rfl) ?_
    refine run_nil ?_
    refine St.then_n ?_
    refine do_seq ?_
    refine do_region ?_
    refine St.sel (P := rdO 194 r B s) (by repeat (first | with_reducible exact Sel.head | apply Sel.tail)) (St.rd_open fun A cap => ?_)
    refine run_read rfl (by decide) (fun _ => nofun) (rd_move rfl) ?_
    refine run_read rfl (by decide) (fun _ => nofun) (rd_nilCheck rfl) ?_
    first | refine run_read rfl (by decide) (fun _ => nofun) (rd_fieldAddr0 rfl fld194_1) ?_ | refine run_read rfl (by decide) (fun _ => nofun) (rd_fieldAddr rfl fld194_1) ?_
    refine run_read rfl (by decide) (fun _ => nofun) (rd_load rfl row3 (cells_pts1 (by repeat (first | with_reducible exact Sel.head | apply Sel.tail)) rfl)) ?_
    refine run_read rfl (by decide) (fun _ => nofun) (rd_assign rfl) ?_
    refine run_nil ?_
    refine St.keep (β' := [(0, _), (1, _), (5, _)]) ⟨rfl, rfl, rfl, trivial⟩ ?_
    refine St.then_n ?_
    refine do_seq ?_
    refine do_region ?_
    refine St.rd_shut (A := A) (cap := cap) s (by repeat (first | exact Pick.nil | apply Pick.cons (by repeat (first | with_reducible exact Sel.head | apply Sel.tail)))) ?_
    refine run_read rfl (by decide) (fun _ => nofun) (rd_move rfl) ?_
    refine run_spec rfl (by decide) (by kernel_rfl) rfl (by repeat (first | exact Pick.nil | apply Pick.cons (by repeat (first | with_reducible exact Sel.head | apply Sel.tail)))) (refRdUint_spec _ hs hl) ?_
    rintro ⟨⟩ -
    rw [hr]
    dsimp only
    try simp only [List.cons_append, List.nil_append]
    refine run_read rfl (by decide) (fun _ => nofun) (rd_assign rfl) ?_
    refine run_nil ?_
    refine St.then_n ?_
    refine do_seq ?_
    refine do_seq ?_
    refine do_region ?_
    refine St.sel (P := rdO 194 r B s1) (by repeat (first | with_reducible exact Sel.head | apply Sel.tail)) (St.rd_open fun A cap => ?_)
    refine run_read rfl (by decide) (fun _ => nofun) (rd_move rfl) ?_
    refine run_read rfl (by decide) (fun _ => nofun) (rd_nilCheck rfl) ?_
    first | refine run_read rfl (by decide) (fun _ => nofun) (rd_fieldAddr0 rfl fld194_2) ?_ | refine run_read rfl (by decide) (fun _ => nofun) (rd_fieldAddr rfl fld194_2) ?_
    refine run_read rfl (by decide) (fun _ => nofun) (rd_load rfl row25 (cells_pts1 (by repeat (first | with_reducible exact Sel.head | apply Sel.tail)) rfl)) ?_
    refine run_read rfl (by decide) (fun _ => nofun) ((rd_eq rfl rfl).eq (show _ = Value.bool false by simp; omega)) ?_
    refine run_read rfl (by decide) (fun _ => nofun) (rd_move rfl) ?_
    first | (refine run_skip rfl rfl ?_) | (refine run_read rfl (by decide) (fun _ => nofun) (rd_move rfl) ?_)
    first | (refine run_skip rfl rfl ?_) | (refine run_read rfl (by decide) (fun _ => nofun) (rd_lt rfl rfl) ?_)
    first | (refine run_skip rfl rfl ?_) | (refine run_read rfl (by decide) (fun _ => nofun) (rd_move rfl) ?_)
    first | (refine run_skip rfl rfl ?_) | (refine run_read rfl (by decide) (fun _ => nofun) (rd_move rfl) ?_)
    first | (refine run_skip rfl rfl ?_) | (refine run_read rfl (by decide) (fun _ => nofun) (rd_move rfl) ?_)
    first | (refine run_skip rfl rfl ?_) | (first | refine run_read rfl (by decide) (fun _ => nofun) ((rd_conv Try.underlying3 Try.underlying183 rfl).eq (congrArg (Value.int .u64) (IntWalk.u64_in _ (by omega)))) ?_ | refine run_read rfl (by decide) (fun _ => nofun) (rd_conv Try.underlying3 Try.underlying183 rfl) ?_)
    first | (refine run_skip rfl rfl ?_) | (refine run_read rfl (by decide) (fun _ => nofun) (rd_gt rfl rfl) ?_)
    first | (refine run_skip rfl rfl ?_) | (first | refine run_read rfl (by decide) (fun _ => nofun) (rd_pick_t rfl rfl) ?_ | refine run_read rfl (by decide) (fun _ => nofun) (rd_pick_f rfl rfl) ?_)
    first | refine run_read rfl (by decide) (fun _ => nofun) (rd_pick_t rfl rfl) ?_ | refine run_read rfl (by decide) (fun _ => nofun) (rd_pick_f rfl rfl) ?_
    refine run_nil ?_
    refine St.keep (β' := [(0, _), (5, _), (6, _), (27, _)]) ⟨rfl, rfl, rfl, rfl, trivial⟩ ?_
    refine St.then_n ?_
    refine do_cond_f rfl ?_
    refine do_skip ?_
    refine St.then_n ?_
    refine do_seq ?_
    refine do_seq ?_
    refine do_draw [[1, 2, 3, 4, 5, 6, 7, 8, 9, 10, 11, 12, 13, 14, 15, 16, 17, 18, 19], [2, 3, 4, 5, 6, 7, 8, 9, 10, 11, 12, 13, 14, 15, 16, 17, 18, 19], [3, 4, 5, 6, 7, 8, 9, 10, 11, 12, 13, 14, 15, 16, 17, 18, 19], [4, 5, 6, 7, 8, 9, 10, 11, 12, 13, 14, 15, 16, 17, 18, 19], [5, 6, 7, 8, 9, 10, 11, 12, 13, 14, 15, 16, 17, 18, 19], [6, 7, 8, 9, 10, 11, 12, 13, 14, 15, 16, 17, 18, 19], [18, 19], [8, 9, 10, 11, 16, 17, 18, 19], [9, 10, 11, 16, 17, 18, 19], [10, 11, 16, 17, 18, 19], [11, 16, 17, 18, 19], [16, 17, 18, 19], [13, 14, 15, 16, 17, 18, 19], [14, 15, 16, 17, 18, 19], [15, 16, 17, 18, 19], [16, 17, 18, 19], [17, 18, 19], [18, 19], [19], []] (by kernel_rfl) rfl ?_
    refine any_take (i := 0) (by kernel_rfl) rfl rfl (by decide) (fun _ _ _ _ _ h => h) rfl (rd_move rfl) ?_
    refine any_take (i := 1) (by kernel_rfl) rfl rfl (by decide) (fun _ _ _ _ _ h => h) rfl (rd_nilCheck rfl) ?_
    first | refine any_take (i := 2) (by kernel_rfl) rfl rfl (by decide) (fun _ _ _ _ _ h => h) rfl (rd_fieldAddr0 rfl fld194_2) ?_ | refine any_take (i := 2) (by kernel_rfl) rfl rfl (by decide) (fun _ _ _ _ _ h => h) rfl (rd_fieldAddr rfl fld194_2) ?_
    refine any_take (i := 3) (by kernel_rfl) rfl rfl (by decide) (fun _ _ _ _ _ h => h) rfl (rd_load rfl row25 (cells_pts1 (by repeat (first | with_reducible exact Sel.head | apply Sel.tail)) rfl)) ?_
    refine any_take (i := 4) (by kernel_rfl) rfl rfl (by decide) (fun _ _ _ _ _ h => h) rfl ((rd_eq rfl rfl).eq (show _ = Value.bool false by simp; omega)) ?_
    refine any_take (i := 5) (by kernel_rfl) rfl rfl (by decide) (fun _ _ _ _ _ h => h) rfl (rd_move rfl) ?_
    first | refine any_skip (i := 6) (by kernel_rfl) rfl rfl (by decide) (fun _ _ _ _ _ h => h) rfl ?_ | refine any_take (i := 6) (by kernel_rfl) rfl rfl (by decide) (fun _ _ _ _ _ h => h) rfl (rd_move rfl) ?_
    first | refine any_skip (i := 7) (by kernel_rfl) rfl rfl (by decide) (fun _ _ _ _ _ h => h) rfl ?_ | refine any_take (i := 7) (by kernel_rfl) rfl rfl (by decide) (fun _ _ _ _ _ h => h) rfl (rd_move rfl) ?_
    first | refine any_skip (i := 8) (by kernel_rfl) rfl rfl (by decide) (fun _ _ _ _ _ h => h) rfl ?_ | refine any_take (i := 8) (by kernel_rfl) rfl rfl (by decide) (fun _ _ _ _ _ h => h) rfl (rd_nilCheck rfl) ?_
    first | refine any_skip (i := 9) (by kernel_rfl) rfl rfl (by decide) (fun _ _ _ _ _ h => h) rfl ?_ | refine any_take (i := 9) (by kernel_rfl) rfl rfl (by decide) (fun _ _ _ _ _ h => h) rfl (rd_fieldAddr0 rfl fld194_0) ?_ | refine any_take (i := 9) (by kernel_rfl) rfl rfl (by decide) (fun _ _ _ _ _ h => h) rfl (rd_fieldAddr rfl fld194_0) ?_
    first | refine any_skip (i := 10) (by kernel_rfl) rfl rfl (by decide) (fun _ _ _ _ _ h => h) rfl ?_ | refine any_take (i := 10) (by kernel_rfl) rfl rfl (by decide) (fun _ _ _ _ _ h => h) rfl (rd_load rfl row26 (cells_pts1 (by repeat (first | with_reducible exact Sel.head | apply Sel.tail)) rfl)) ?_
    first | refine any_skip (i := 11) (by kernel_rfl) rfl rfl (by decide) (fun _ _ _ _ _ h => h) rfl ?_ | refine any_take (i := 11) (by kernel_rfl) rfl rfl (by decide) (fun _ _ _ _ _ h => h) rfl (rd_len Try.underlying26 rfl) ?_
    first | refine any_skip (i := 12) (by kernel_rfl) rfl rfl (by decide) (fun _ _ _ _ _ h => h) rfl ?_ | refine any_take (i := 12) (by kernel_rfl) rfl rfl (by decide) (fun _ _ _ _ _ h => h) rfl (rd_move rfl) ?_
    first | refine any_skip (i := 13) (by kernel_rfl) rfl rfl (by decide) (fun _ _ _ _ _ h => h) rfl ?_ | refine any_take (i := 13) (by kernel_rfl) rfl rfl (by decide) (fun _ _ _ _ _ h => h) rfl (rd_nilCheck rfl) ?_
    first | refine any_skip (i := 14) (by kernel_rfl) rfl rfl (by decide) (fun _ _ _ _ _ h => h) rfl ?_ | refine any_take (i := 14) (by kernel_rfl) rfl rfl (by decide) (fun _ _ _ _ _ h => h) rfl (rd_fieldAddr0 rfl fld194_1) ?_ | refine any_take (i := 14) (by kernel_rfl) rfl rfl (by decide) (fun _ _ _ _ _ h => h) rfl (rd_fieldAddr rfl fld194_1) ?_
    first | refine any_skip (i := 15) (by kernel_rfl) rfl rfl (by decide) (fun _ _ _ _ _ h => h) rfl ?_ | refine any_take (i := 15) (by kernel_rfl) rfl rfl (by decide) (fun _ _ _ _ _ h => h) rfl (rd_load rfl row3 (cells_pts1 (by repeat (first | with_reducible exact Sel.head | apply Sel.tail)) rfl)) ?_
    first | refine any_skip (i := 16) (by kernel_rfl) rfl rfl (by decide) (fun _ _ _ _ _ h => h) rfl ?_ | refine any_take (i := 16) (by kernel_rfl) rfl rfl (by decide) (fun _ _ _ _ _ h => h) rfl ((rd_sub rfl rfl).eq (congrArg (Value.int .i64) (IntWalk.i64_in _ (by omega)))) ?_ | refine any_take (i := 16) (by kernel_rfl) rfl rfl (by decide) (fun _ _ _ _ _ h => h) rfl (rd_sub rfl rfl) ?_
    first | refine any_skip (i := 17) (by kernel_rfl) rfl rfl (by decide) (fun _ _ _ _ _ h => h) rfl ?_ | refine any_take (i := 17) (by kernel_rfl) rfl rfl (by decide) (fun _ _ _ _ _ h => h) rfl ((rd_conv Try.underlying3 Try.underlying183 rfl).eq (congrArg (Value.int .u64) (IntWalk.u64_in _ (by omega)))) ?_ | refine any_take (i := 17) (by kernel_rfl) rfl rfl (by decide) (fun _ _ _ _ _ h => h) rfl (rd_conv Try.underlying3 Try.underlying183 rfl) ?_
    first | refine any_skip (i := 18) (by kernel_rfl) rfl rfl (by decide) (fun _ _ _ _ _ h => h) rfl ?_ | refine any_take (i := 18) (by kernel_rfl) rfl rfl (by decide) (fun _ _ _ _ _ h => h) rfl (rd_gt rfl rfl) ?_
    first | refine any_take (i := 19) (by kernel_rfl) rfl rfl (by decide) (fun _ _ _ _ _ h => h) rfl (rd_pick_t rfl rfl) ?_ | refine any_take (i := 19) (by kernel_rfl) rfl rfl (by decide) (fun _ _ _ _ _ h => h) rfl (rd_pick_f rfl rfl) ?_
    refine any_nil (by kernel_rfl) ?_
    refine St.keep (β' := [(0, _), (5, _), (6, _), (50, _)]) ⟨rfl, rfl, rfl, rfl, trivial⟩ ?_
    refine St.then_n ?_
    refine do_cond_f rfl ?_
    refine do_skip ?_
    refine St.then_n ?_
    refine do_seq ?_
    refine do_seq ?_
    refine do_region ?_
    refine run_read rfl (by decide) (fun _ => nofun) (rd_move rfl) ?_
    refine run_read rfl (by decide) (fun _ => nofun) (rd_nilCheck rfl) ?_
    first | refine run_read rfl (by decide) (fun _ => nofun) (rd_fieldAddr0 rfl fld194_2) ?_ | refine run_read rfl (by decide) (fun _ => nofun) (rd_fieldAddr rfl fld194_2) ?_
    refine run_read rfl (by decide) (fun _ => nofun) (rd_load rfl row25 (cells_pts1 (by repeat (first | with_reducible exact Sel.head | apply Sel.tail)) rfl)) ?_
    refine run_read rfl (by decide) (fun _ => nofun) (rd_ne rfl rfl) ?_
    refine run_nil ?_
    refine St.keep (β' := [(0, _), (5, _), (6, _), (58, _)]) ⟨rfl, rfl, rfl, rfl, trivial⟩ ?_
    refine St.then_n ?_
    refine do_condp rfl (fun h58 => ?_) (fun h58 => absurd (by omega) h58)
    refine do_seq ?_
    refine do_region ?_
    refine run_read rfl (by decide) (fun _ => nofun) (rd_move rfl) ?_
    refine run_read rfl (by decide) (fun _ => nofun) (rd_move rfl) ?_
    refine run_read rfl (by decide) (fun _ => nofun) (rd_nilCheck rfl) ?_
    first | refine run_read rfl (by decide) (fun _ => nofun) (rd_fieldAddr0 rfl fld194_1) ?_ | refine run_read rfl (by decide) (fun _ => nofun) (rd_fieldAddr rfl fld194_1) ?_
    refine run_store rfl rfl rfl (by repeat (first | with_reducible exact Sel.head | apply Sel.tail)) row3 rfl rfl (by simp only [List.set_cons_succ, List.set_cons_zero]; exact rfl) ?_
    refine run_nil ?_
    refine St.keep (β' := []) trivial ?_
    refine St.then_n ?_
    refine do_seq ?_
    refine do_region ?_
    refine run_read rfl (by decide) (fun _ => nofun) (rd_assign rfl) ?_
    refine run_nil ?_
    refine St.then_n ?_
    refine do_ret ?_
    refine St.then_r ?_
    refine do_ret1 Try.results129 (res_tmp rfl) ?_
    intro w hw
    exact ⟨(), trivial, rfl, Holds.rd_shut (A := A) (cap := cap) ⟨s.at_, s1.why⟩ (by repeat (first | exact Pick.nil | apply Pick.cons (by repeat (first | with_reducible exact Sel.head | apply Sel.tail)))) hw⟩
theorem refRdEnd_spec (F : HP) : Spec Try.prog 90 [.pointer (some ⟨r, 0, none⟩)] [rdO 194 r B s] F (fun _ : Unit => True) (fun _ => .int .i64 (rE B s)) (fun _ => [rdO 194 r B s]) := by
  intro ω w hh
  refine enter Try.func90 rfl Try.ntmps90 rfl hh ?_
  simp only [List.cons_append, List.nil_append, argsB]
  refine St.rd_open fun A cap => ?_
  by_cases hy : s.why = 0
  · have hyy := hy
    refine do_seq ?_
    refine do_region ?_
    refine run_read rfl (by decide) (fun _ => nofun) (rd_assign rfl) ?_
    refine run_nil ?_
    refine St.then_n ?_
    refine do_seq ?_
    refine do_seq ?_
    refine do_draw [[1, 2, 3, 4, 5, 6, 7, 8, 9, 10, 11, 12, 13, 14, 15, 16], [2, 3, 4, 5, 6, 7, 8, 9, 10, 11, 12, 13, 14, 15, 16], [3, 4, 5, 6, 7, 8, 9, 10, 11, 12, 13, 14, 15, 16], [4, 5, 6, 7, 8, 9, 10, 11, 12, 13, 14, 15, 16], [5, 6, 7, 8, 9, 10, 11, 12, 13, 14, 15, 16], [6, 7, 8, 9, 10, 11, 12, 13, 14, 15, 16], [7, 8, 9, 15, 16], [8, 9, 15, 16], [9, 15, 16], [15, 16], [11, 12, 13, 14, 15, 16], [12, 13, 14, 15, 16], [13, 14, 15, 16], [14, 15, 16], [15, 16], [16], []] (by kernel_rfl) rfl ?_
    refine any_take (i := 0) (by kernel_rfl) rfl rfl (by decide) (fun _ _ _ _ _ h => h) rfl (rd_move rfl) ?_
    refine any_take (i := 1) (by kernel_rfl) rfl rfl (by decide) (fun _ _ _ _ _ h => h) rfl (rd_nilCheck rfl) ?_
    first | refine any_take (i := 2) (by kernel_rfl) rfl rfl (by decide) (fun _ _ _ _ _ h => h) rfl (rd_fieldAddr0 rfl fld194_2) ?_ | refine any_take (i := 2) (by kernel_rfl) rfl rfl (by decide) (fun _ _ _ _ _ h => h) rfl (rd_fieldAddr rfl fld194_2) ?_
    refine any_take (i := 3) (by kernel_rfl) rfl rfl (by decide) (fun _ _ _ _ _ h => h) rfl (rd_load rfl row25 (cells_pts1 (by repeat (first | with_reducible exact Sel.head | apply Sel.tail)) rfl)) ?_
    refine any_take (i := 4) (by kernel_rfl) rfl rfl (by decide) (fun _ _ _ _ _ h => h) rfl ((rd_eq rfl rfl).eq (show _ = Value.bool true by simp [hy])) ?_
    refine any_take (i := 5) (by kernel_rfl) rfl rfl (by decide) (fun _ _ _ _ _ h => h) rfl (rd_move rfl) ?_
    first | refine any_skip (i := 6) (by kernel_rfl) rfl rfl (by decide) (fun _ _ _ _ _ h => h) rfl ?_ | refine any_take (i := 6) (by kernel_rfl) rfl rfl (by decide) (fun _ _ _ _ _ h => h) rfl (rd_move rfl) ?_
    first | refine any_skip (i := 7) (by kernel_rfl) rfl rfl (by decide) (fun _ _ _ _ _ h => h) rfl ?_ | refine any_take (i := 7) (by kernel_rfl) rfl rfl (by decide) (fun _ _ _ _ _ h => h) rfl (rd_nilCheck rfl) ?_
    first | refine any_skip (i := 8) (by kernel_rfl) rfl rfl (by decide) (fun _ _ _ _ _ h => h) rfl ?_ | refine any_take (i := 8) (by kernel_rfl) rfl rfl (by decide) (fun _ _ _ _ _ h => h) rfl (rd_fieldAddr0 rfl fld194_1) ?_ | refine any_take (i := 8) (by kernel_rfl) rfl rfl (by decide) (fun _ _ _ _ _ h => h) rfl (rd_fieldAddr rfl fld194_1) ?_
    first | refine any_skip (i := 9) (by kernel_rfl) rfl rfl (by decide) (fun _ _ _ _ _ h => h) rfl ?_ | refine any_take (i := 9) (by kernel_rfl) rfl rfl (by decide) (fun _ _ _ _ _ h => h) rfl (rd_load rfl row3 (cells_pts1 (by repeat (first | with_reducible exact Sel.head | apply Sel.tail)) rfl)) ?_
    first | refine any_skip (i := 10) (by kernel_rfl) rfl rfl (by decide) (fun _ _ _ _ _ h => h) rfl ?_ | refine any_take (i := 10) (by kernel_rfl) rfl rfl (by decide) (fun _ _ _ _ _ h => h) rfl (rd_move rfl) ?_
    first | refine any_skip (i := 11) (by kernel_rfl) rfl rfl (by decide) (fun _ _ _ _ _ h => h) rfl ?_ | refine any_take (i := 11) (by kernel_rfl) rfl rfl (by decide) (fun _ _ _ _ _ h => h) rfl (rd_nilCheck rfl) ?_
    first | refine any_skip (i := 12) (by kernel_rfl) rfl rfl (by decide) (fun _ _ _ _ _ h => h) rfl ?_ | refine any_take (i := 12) (by kernel_rfl) rfl rfl (by decide) (fun _ _ _ _ _ h => h) rfl (rd_fieldAddr0 rfl fld194_0) ?_ | refine any_take (i := 12) (by kernel_rfl) rfl rfl (by decide) (fun _ _ _ _ _ h => h) rfl (rd_fieldAddr rfl fld194_0) ?_
    first | refine any_skip (i := 13) (by kernel_rfl) rfl rfl (by decide) (fun _ _ _ _ _ h => h) rfl ?_ | refine any_take (i := 13) (by kernel_rfl) rfl rfl (by decide) (fun _ _ _ _ _ h => h) rfl (rd_load rfl row26 (cells_pts1 (by repeat (first | with_reducible exact Sel.head | apply Sel.tail)) rfl)) ?_
    first | refine any_skip (i := 14) (by kernel_rfl) rfl rfl (by decide) (fun _ _ _ _ _ h => h) rfl ?_ | refine any_take (i := 14) (by kernel_rfl) rfl rfl (by decide) (fun _ _ _ _ _ h => h) rfl (rd_len Try.underlying26 rfl) ?_
    first | refine any_skip (i := 15) (by kernel_rfl) rfl rfl (by decide) (fun _ _ _ _ _ h => h) rfl ?_ | refine any_take (i := 15) (by kernel_rfl) rfl rfl (by decide) (fun _ _ _ _ _ h => h) rfl (rd_lt rfl rfl) ?_
    first | refine any_take (i := 16) (by kernel_rfl) rfl rfl (by decide) (fun _ _ _ _ _ h => h) rfl (rd_pick_t rfl rfl) ?_ | refine any_take (i := 16) (by kernel_rfl) rfl rfl (by decide) (fun _ _ _ _ _ h => h) rfl (rd_pick_f rfl rfl) ?_
    refine any_nil (by kernel_rfl) ?_
    refine St.keep (β' := [(0, _), (19, _)]) ⟨rfl, rfl, trivial⟩ ?_
    refine St.then_n ?_
    first | refine do_condp rfl (fun h19 => ?_) (fun h19 => ?_) | refine do_cond rfl (fun h19 => ?_) (fun h19 => ?_)
    · refine do_seq ?_
      refine do_region ?_
      refine run_read rfl (by decide) (fun _ => nofun) (rd_assign rfl) ?_
      refine run_nil ?_
      refine St.then_n ?_
      refine do_ret ?_
      refine St.then_r ?_
      refine do_ret1 Try.results90 (res_tmp rfl) ?_
      intro w hw
      exact ⟨(), trivial, by rw [show rE B s = 11 from if_pos ⟨hy, by omega⟩], Holds.rd_shut (A := A) (cap := cap) s (by repeat (first | exact Pick.nil | apply Pick.cons (by repeat (first | with_reducible exact Sel.head | apply Sel.tail)))) hw⟩
    · refine do_skip ?_
      refine St.then_n ?_
      refine do_seq ?_
      refine do_region ?_
      refine run_read rfl (by decide) (fun _ => nofun) (rd_move rfl) ?_
      refine run_read rfl (by decide) (fun _ => nofun) (rd_nilCheck rfl) ?_
      first | refine run_read rfl (by decide) (fun _ => nofun) (rd_fieldAddr0 rfl fld194_2) ?_ | refine run_read rfl (by decide) (fun _ => nofun) (rd_fieldAddr rfl fld194_2) ?_
      refine run_read rfl (by decide) (fun _ => nofun) (rd_load rfl row25 (cells_pts1 (by repeat (first | with_reducible exact Sel.head | apply Sel.tail)) rfl)) ?_
      refine run_read rfl (by decide) (fun _ => nofun) (rd_assign rfl) ?_
      refine run_nil ?_
      refine St.keep (β' := [(2, _)]) ⟨rfl, trivial⟩ ?_
      refine St.then_n ?_
      refine do_ret ?_
      refine do_ret1 Try.results90 (res_tmp rfl) ?_
      intro w hw
      exact ⟨(), trivial, by rw [show rE B s = s.why from if_neg (by omega)], Holds.rd_shut (A := A) (cap := cap) s (by repeat (first | exact Pick.nil | apply Pick.cons (by repeat (first | with_reducible exact Sel.head | apply Sel.tail)))) hw⟩
  · have hyy := hy
    refine do_seq ?_
    refine do_region ?_
    refine run_read rfl (by decide) (fun _ => nofun) (rd_assign rfl) ?_
    refine run_nil ?_
    refine St.then_n ?_
    refine do_seq ?_
    refine do_seq ?_
    refine do_draw [[1, 2, 3, 4, 5, 6, 7, 8, 9, 10, 11, 12, 13, 14, 15, 16], [2, 3, 4, 5, 6, 7, 8, 9, 10, 11, 12, 13, 14, 15, 16], [3, 4, 5, 6, 7, 8, 9, 10, 11, 12, 13, 14, 15, 16], [4, 5, 6, 7, 8, 9, 10, 11, 12, 13, 14, 15, 16], [5, 6, 7, 8, 9, 10, 11, 12, 13, 14, 15, 16], [6, 7, 8, 9, 10, 11, 12, 13, 14, 15, 16], [7, 8, 9, 15, 16], [8, 9, 15, 16], [9, 15, 16], [15, 16], [11, 12, 13, 14, 15, 16], [12, 13, 14, 15, 16], [13, 14, 15, 16], [14, 15, 16], [15, 16], [16], []] (by kernel_rfl) rfl ?_
    refine any_take (i := 0) (by kernel_rfl) rfl rfl (by decide) (fun _ _ _ _ _ h => h) rfl (rd_move rfl) ?_
    refine any_take (i := 1) (by kernel_rfl) rfl rfl (by decide) (fun _ _ _ _ _ h => h) rfl (rd_nilCheck rfl) ?_
    first | refine any_take (i := 2) (by kernel_rfl) rfl rfl (by decide) (fun _ _ _ _ _ h => h) rfl (rd_fieldAddr0 rfl fld194_2) ?_ | refine any_take (i := 2) (by kernel_rfl) rfl rfl (by decide) (fun _ _ _ _ _ h => h) rfl (rd_fieldAddr rfl fld194_2) ?_
    refine any_take (i := 3) (by kernel_rfl) rfl rfl (by decide) (fun _ _ _ _ _ h => h) rfl (rd_load rfl row25 (cells_pts1 (by repeat (first | with_reducible exact Sel.head | apply Sel.tail)) rfl)) ?_
    refine any_take (i := 4) (by kernel_rfl) rfl rfl (by decide) (fun _ _ _ _ _ h => h) rfl ((rd_eq rfl rfl).eq (show _ = Value.bool false by simp [hy])) ?_
    refine any_take (i := 5) (by kernel_rfl) rfl rfl (by decide) (fun _ _ _ _ _ h => h) rfl (rd_move rfl) ?_
    first | refine any_skip (i := 6) (by kernel_rfl) rfl rfl (by decide) (fun _ _ _ _ _ h => h) rfl ?_ | refine any_take (i := 6) (by kernel_rfl) rfl rfl (by decide) (fun _ _ _ _ _ h => h) rfl (rd_move rfl) ?_
    first | refine any_skip (i := 7) (by kernel_rfl) rfl rfl (by decide) (fun _ _ _ _ _ h => h) rfl ?_ | refine any_take (i := 7) (by kernel_rfl) rfl rfl (by decide) (fun _ _ _ _ _ h => h) rfl (rd_nilCheck rfl) ?_
    first | refine any_skip (i := 8) (by kernel_rfl) rfl rfl (by decide) (fun _ _ _ _ _ h => h) rfl ?_ | refine any_take (i := 8) (by kernel_rfl) rfl rfl (by decide) (fun _ _ _ _ _ h => h) rfl (rd_fieldAddr0 rfl fld194_1) ?_ | refine any_take (i := 8) (by kernel_rfl) rfl rfl (by decide) (fun _ _ _ _ _ h => h) rfl (rd_fieldAddr rfl fld194_1) ?_
    first | refine any_skip (i := 9) (by kernel_rfl) rfl rfl (by decide) (fun _ _ _ _ _ h => h) rfl ?_ | refine any_take (i := 9) (by kernel_rfl) rfl rfl (by decide) (fun _ _ _ _ _ h => h) rfl (rd_load rfl row3 (cells_pts1 (by repeat (first | with_reducible exact Sel.head | apply Sel.tail)) rfl)) ?_
    first | refine any_skip (i := 10) (by kernel_rfl) rfl rfl (by decide) (fun _ _ _ _ _ h => h) rfl ?_ | refine any_take (i := 10) (by kernel_rfl) rfl rfl (by decide) (fun _ _ _ _ _ h => h) rfl (rd_move rfl) ?_
    first | refine any_skip (i := 11) (by kernel_rfl) rfl rfl (by decide) (fun _ _ _ _ _ h => h) rfl ?_ | refine any_take (i := 11) (by kernel_rfl) rfl rfl (by decide) (fun _ _ _ _ _ h => h) rfl (rd_nilCheck rfl) ?_
    first | refine any_skip (i := 12) (by kernel_rfl) rfl rfl (by decide) (fun _ _ _ _ _ h => h) rfl ?_ | refine any_take (i := 12) (by kernel_rfl) rfl rfl (by decide) (fun _ _ _ _ _ h => h) rfl (rd_fieldAddr0 rfl fld194_0) ?_ | refine any_take (i := 12) (by kernel_rfl) rfl rfl (by decide) (fun _ _ _ _ _ h => h) rfl (rd_fieldAddr rfl fld194_0) ?_
    first | refine any_skip (i := 13) (by kernel_rfl) rfl rfl (by decide) (fun _ _ _ _ _ h => h) rfl ?_ | refine any_take (i := 13) (by kernel_rfl) rfl rfl (by decide) (fun _ _ _ _ _ h => h) rfl (rd_load rfl row26 (cells_pts1 (by repeat (first | with_reducible exact Sel.head | apply Sel.tail)) rfl)) ?_
    first | refine any_skip (i := 14) (by kernel_rfl) rfl rfl (by decide) (fun _ _ _ _ _ h => h) rfl ?_ | refine any_take (i := 14) (by kernel_rfl) rfl rfl (by decide) (fun _ _ _ _ _ h => h) rfl (rd_len Try.underlying26 rfl) ?_
    first | refine any_skip (i := 15) (by kernel_rfl) rfl rfl (by decide) (fun _ _ _ _ _ h => h) rfl ?_ | refine any_take (i := 15) (by kernel_rfl) rfl rfl (by decide) (fun _ _ _ _ _ h => h) rfl (rd_lt rfl rfl) ?_
    first | refine any_take (i := 16) (by kernel_rfl) rfl rfl (by decide) (fun _ _ _ _ _ h => h) rfl (rd_pick_t rfl rfl) ?_ | refine any_take (i := 16) (by kernel_rfl) rfl rfl (by decide) (fun _ _ _ _ _ h => h) rfl (rd_pick_f rfl rfl) ?_
    refine any_nil (by kernel_rfl) ?_
    refine St.keep (β' := [(0, _), (19, _)]) ⟨rfl, rfl, trivial⟩ ?_
    refine St.then_n ?_
    refine do_cond_f rfl ?_
    refine do_skip ?_
    refine St.then_n ?_
    refine do_seq ?_
    refine do_region ?_
    refine run_read rfl (by decide) (fun _ => nofun) (rd_move rfl) ?_
    refine run_read rfl (by decide) (fun _ => nofun) (rd_nilCheck rfl) ?_
    first | refine run_read rfl (by decide) (fun _ => nofun) (rd_fieldAddr0 rfl fld194_2) ?_ | refine run_read rfl (by decide) (fun _ => nofun) (rd_fieldAddr rfl fld194_2) ?_
    refine run_read rfl (by decide) (fun _ => nofun) (rd_load rfl row25 (cells_pts1 (by repeat (first | with_reducible exact Sel.head | apply Sel.tail)) rfl)) ?_
    refine run_read rfl (by decide) (fun _ => nofun) (rd_assign rfl) ?_
    refine run_nil ?_
    refine St.keep (β' := [(2, _)]) ⟨rfl, trivial⟩ ?_
    refine St.then_n ?_
    refine do_ret ?_
    refine do_ret1 Try.results90 (res_tmp rfl) ?_
    intro w hw
    exact ⟨(), trivial, by rw [show rE B s = s.why from if_neg (fun h => hy h.1)], Holds.rd_shut (A := A) (cap := cap) s (by repeat (first | exact Pick.nil | apply Pick.cons (by repeat (first | with_reducible exact Sel.head | apply Sel.tail)))) hw⟩
end
end Go.Proofs.Ytglcmlicfmmlpaa
