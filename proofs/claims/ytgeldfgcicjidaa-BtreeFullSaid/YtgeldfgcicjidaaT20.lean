/-
  The reference's: can pairs be loaded; a part of pairs.
-/
import Derived.Test.YtgeldfgcicjidaaT19
namespace Go.Proofs.Ytgeldfgcicjidaa
open Go.RowKit
set_option linter.unusedSimpArgs false
set_option linter.unusedVariables false

theorem right_spec (F : HP) (k : List UInt8) (A : Option Addr) (n c : Nat) : Spec Try.prog 15 [.string (strOf k), .slice A n c] [] F (fun _ : Unit => True) (fun _ => .bool (decide (0 < k.length ∧ k.length ≤ 24 ∧ n ≤ 80))) (fun _ => []) := by
  intro ω w hh
  refine enter Try.func15 rfl Try.ntmps15 rfl hh ?_
  simp only [List.nil_append, argsB]
  obtain ⟨t1, h1⟩ : ∃ t1, decide (0 < k.length) = t1 := ⟨_, rfl⟩
  obtain ⟨t2, h2⟩ : ∃ t2, decide (k.length ≤ 24) = t2 := ⟨_, rfl⟩
  obtain ⟨t3, h3⟩ : ∃ t3, decide (n ≤ 80) = t3 := ⟨_, rfl⟩
  have hd : decide (0 < k.length ∧ k.length ≤ 24 ∧ n ≤ 80) = (t1 && (t2 && t3)) := by rw [← h1, ← h2, ← h3, Bool.decide_and, Bool.decide_and]
  rw [hd]
  have e1 : decide ((1 : Int) ≤ (k.length : Int)) = t1 := by rw [← h1]; exact decide_eq_decide.2 (by omega)
  have e2 : decide ((k.length : Int) ≤ 24) = t2 := by rw [← h2]; exact decide_eq_decide.2 (by omega)
  have e3 : decide ((n : Int) ≤ 80) = t3 := by rw [← h3]; exact decide_eq_decide.2 (by omega)
  have h4 : t1 = false ∨ (t1 = true ∧ t2 = false) ∨ (t1 = true ∧ t2 = true) := by cases t1 <;> cases t2 <;> simp
  refine sr ?_
  refine rr (rd_assign rfl) ?_
  refine nx ?_
  refine do_seq ?_
  refine do_cut (fun _ : Unit => True) (fun _ => [(4, .bool (t1 && (t2 && t3)))]) (fun _ => [F]) (fun K hK => ?_) ?_
  · rcases h4 with rfl | ⟨rfl, rfl⟩ | ⟨rfl, rfl⟩
    · refine do_region ?_
      refine rr (rd_move rfl) ?_
      refine rr (rd_lens Try.underlying9 rfl) ?_
      refine rr ((rd_ge rfl rfl).eq (congrArg Value.bool e1)) ?_
      refine rr (rd_move rfl) ?_
      first | refine sk ?_ | (refine rr (rd_move rfl) ?_)
      first | refine sk ?_ | (refine rr (rd_lens Try.underlying9 rfl) ?_)
      first | refine sk ?_ | (refine rr ((rd_le rfl rfl).eq (congrArg Value.bool e2)) ?_)
      refine rr (rd_pick rfl rfl) ?_
      refine rr (rd_move rfl) ?_
      first | refine sk ?_ | (refine rr (rd_move rfl) ?_)
      first | refine sk ?_ | (refine rr (rd_len Try.underlying44 rfl) ?_)
      first | refine sk ?_ | (refine rr ((rd_le rfl rfl).eq (congrArg Value.bool e3)) ?_)
      refine rr (rd_pick rfl rfl) ?_
      refine rr (rd_assign rfl) ?_
      refine run_nil ?_
      refine St.kp [(4, _)] ?_
      refine St.then_n ?_
      exact St.sb (St.kq [(4, _)] (h := hK () trivial))
    · refine do_region ?_
      refine rr (rd_move rfl) ?_
      refine rr (rd_lens Try.underlying9 rfl) ?_
      refine rr ((rd_ge rfl rfl).eq (congrArg Value.bool e1)) ?_
      refine rr (rd_move rfl) ?_
      first | refine sk ?_ | (refine rr (rd_move rfl) ?_)
      first | refine sk ?_ | (refine rr (rd_lens Try.underlying9 rfl) ?_)
      first | refine sk ?_ | (refine rr ((rd_le rfl rfl).eq (congrArg Value.bool e2)) ?_)
      refine rr (rd_pick rfl rfl) ?_
      refine rr (rd_move rfl) ?_
      first | refine sk ?_ | (refine rr (rd_move rfl) ?_)
      first | refine sk ?_ | (refine rr (rd_len Try.underlying44 rfl) ?_)
      first | refine sk ?_ | (refine rr ((rd_le rfl rfl).eq (congrArg Value.bool e3)) ?_)
      refine rr (rd_pick rfl rfl) ?_
      refine rr (rd_assign rfl) ?_
      refine run_nil ?_
      refine St.kp [(4, _)] ?_
      refine St.then_n ?_
      exact St.sb (St.kq [(4, _)] (h := hK () trivial))
    · refine do_region ?_
      refine rr (rd_move rfl) ?_
      refine rr (rd_lens Try.underlying9 rfl) ?_
      refine rr ((rd_ge rfl rfl).eq (congrArg Value.bool e1)) ?_
      refine rr (rd_move rfl) ?_
      first | refine sk ?_ | (refine rr (rd_move rfl) ?_)
      first | refine sk ?_ | (refine rr (rd_lens Try.underlying9 rfl) ?_)
      first | refine sk ?_ | (refine rr ((rd_le rfl rfl).eq (congrArg Value.bool e2)) ?_)
      refine rr (rd_pick rfl rfl) ?_
      refine rr (rd_move rfl) ?_
      first | refine sk ?_ | (refine rr (rd_move rfl) ?_)
      first | refine sk ?_ | (refine rr (rd_len Try.underlying44 rfl) ?_)
      first | refine sk ?_ | (refine rr ((rd_le rfl rfl).eq (congrArg Value.bool e3)) ?_)
      refine rr (rd_pick rfl rfl) ?_
      refine rr (rd_assign rfl) ?_
      refine run_nil ?_
      refine St.kp [(4, _)] ?_
      refine St.then_n ?_
      exact St.sb (St.kq [(4, _)] (h := hK () trivial))
  rintro ⟨⟩ -
  refine do_ret ?_
  refine do_ret1 Try.results15 (res_tmp rfl) ?_
  intro w hw
  exact ⟨(), trivial, rfl, hw.sb⟩
theorem rise_step {L : List Pm} {i : Nat} {x : Pm} (h : RiseOk (L.take i)) (hx : L[i]? = some x) (h1 : okKV x.kv) (h2 : x.del = false) (h3 : ∀ y, 0 < i → L[i - 1]? = some y → cmpB y.k x.k < 0) : RiseOk (L.take (i + 1)) := by
  have hi := (List.getElem?_eq_some_iff.1 hx).1
  rw [take_get' hx]
  refine ⟨fun y hy => ?_, fun y hy => ?_, ?_⟩
  · rcases List.mem_append.1 hy with hy | hy
    · exact h.ok y hy
    · rw [List.mem_singleton.1 hy]; exact h1
  · rcases List.mem_append.1 hy with hy | hy
    · exact h.del y hy
    · rw [List.mem_singleton.1 hy]; exact h2
  · rw [List.map_append]
    refine List.pairwise_append.2 ⟨h.srt, List.pairwise_singleton .., fun a ha b hb => ?_⟩
    rw [List.map_cons, List.map_nil, List.mem_singleton] at hb
    subst hb
    obtain ⟨y, hy, rfl⟩ := List.mem_map.1 ha
    obtain ⟨j, hj⟩ := List.getElem?_of_mem hy
    have hjl := (List.getElem?_eq_some_iff.1 hj).1
    rw [List.length_take] at hjl
    have hz := List.getElem?_eq_getElem (l := L) (i := i - 1) (by omega)
    have h4 := h3 _ (by omega) hz
    by_cases hje : j = i - 1
    · rw [hje, List.getElem?_take_of_lt (by omega), hz] at hj
      obtain rfl := Option.some.inj hj
      exact h4
    · have h5 := h.srt.lt (i := j) (j := i - 1) (by omega) (x := y.kv) (y := (L[i - 1]'(by omega)).kv) (by rw [List.getElem?_map, hj]; rfl) (by rw [List.getElem?_map, List.getElem?_take_of_lt (by omega), hz]; rfl)
      exact cmpB_trans _ _ _ h5 h4
noncomputable def riseB (L : List Pm) : Bool := @decide (RiseOk L) (Classical.propDecidable _)
theorem riseB_t {L : List Pm} : riseB L = true ↔ RiseOk L := by unfold riseB; exact @decide_eq_true_iff _ (Classical.propDecidable _)
theorem riseB_f {L : List Pm} (h : ¬ RiseOk L) : riseB L = false := by
  cases hb : riseB L
  · rfl
  · exact absurd (riseB_t.1 hb) h
theorem rise_adj {L : List Pm} {i : Nat} {x y : Pm} (h : RiseOk L) (h0 : 0 < i) (hx : L[i]? = some x) (hy : L[i - 1]? = some y) : cmpB y.k x.k < 0 :=
  h.srt.lt (i := i - 1) (j := i) (by omega) (x := y.kv) (y := x.kv) (by rw [List.getElem?_map, hy]; rfl) (by rw [List.getElem?_map, hx]; rfl)
set_option maxHeartbeats 4000000 in
theorem rising_spec (F : HP) (A : Option Addr) (n c : Nat) (L : List Pm) (hV : Vw F (.slice A n c) 3 n (L.flatMap prC)) (hn : L.length = n) :
    Spec Try.prog 6 [.slice A n c] [] F (fun _ : Unit => True) (fun _ => .bool (riseB L)) (fun _ => []) := by
  intro ω w hh
  refine enter Try.func6 rfl Try.ntmps6 rfl hh ?_
  simp only [List.nil_append, argsB]
  refine St.vw hV (by repeat (first | with_reducible exact Sel.head | apply Sel.tail)) (fun A0 c0 hv0 _ hcm _ => ?_)
  cases hv0
  have hnm : n ≤ 9223372036854775807 := by simp only [maxLen] at hcm; omega
  refine sr ?_
  refine rr (rd_assign rfl) ?_
  refine nx ?_
  refine do_seq ?_
  refine sr ?_
  refine rr (rd_assign rfl) ?_
  refine nx ?_
  refine do_block ?_
  refine do_lp (fun i : Nat => i ≤ n ∧ RiseOk (L.take i)) (fun i => [(0, .slice A n c), (3, .int .i64 i)]) (fun _ => [F]) (fun i => n - i) 0 ⟨Nat.zero_le _, ⟨(fun _ h => nomatch h), (fun _ h => nomatch h), List.Pairwise.nil⟩⟩ ?_
  rintro i ⟨hi, hR⟩
  refine do_seq ?_
  refine sr ?_
  refine rr (rd_move rfl) ?_
  refine rr (rd_move rfl) ?_
  refine rr (rd_len Try.underlying22 rfl) ?_
  refine rr (rd_lt rfl rfl) ?_
  refine nx ?_
  first | refine do_condp rfl (fun h7 => ?_) (fun h7 => ?_) | refine do_cond rfl (fun h7 => ?_) (fun h7 => ?_)
  · have hx := List.getElem?_eq_getElem (l := L) (i := i) (by omega)
    have hxm := List.mem_of_getElem? hx
    generalize L[i]'_ = x at hx hxm
    obtain ⟨ym, hym⟩ : ∃ ym : Pm, 0 < i → L[i - 1]? = some ym := by
      by_cases h0 : 0 < i
      · exact ⟨_, fun _ => List.getElem?_eq_getElem (l := L) (i := i - 1) (by omega)⟩
      · exact ⟨⟨[], none, 0, [], false⟩, fun h => absurd h h0⟩
    obtain ⟨xk, xA, xc, xb, xd⟩ := x
    obtain ⟨tI, htI⟩ : ∃ tI, decide ((0 : Int) < i) = tI := ⟨_, rfl⟩
    obtain ⟨rB, hrB⟩ : ∃ rB, decide (0 < xk.length ∧ xk.length ≤ 24 ∧ xb.length ≤ 80) = rB := ⟨_, rfl⟩
    have h4 : rB = false ∨ (rB = true ∧ xd = true) ∨ (rB = true ∧ xd = false ∧ tI = false) ∨ (rB = true ∧ xd = false ∧ tI = true) := by cases rB <;> cases xd <;> cases tI <;> simp
    refine St.vw_some hV (by repeat (first | with_reducible exact Sel.head | apply Sel.tail)) (by omega) (fun g of hg _ _ => ?_)
    subst hg
    refine do_skip ?_
    refine St.then_n ?_
    refine do_seq ?_
    refine do_block ?_
    refine do_seq ?_
    refine do_cut (fun _ : Unit => True) (fun _ => [(0, .slice (some ⟨g, of, none⟩) n c), (3, .int .i64 i), (46, .bool (!rB || xd || (tI && decide (cmpB xk ym.k ≤ 0))))]) (fun _ => [F]) (fun K hK => ?_) ?_
    · rcases h4 with rfl | ⟨rfl, rfl⟩ | ⟨rfl, rfl, rfl⟩ | ⟨rfl, rfl, rfl⟩
      · refine do_draw [[2, 3, 4, 10, 11, 12, 13, 14, 15, 16, 17, 18, 19, 20, 21, 22, 23, 24, 25, 26, 27, 28, 29, 30, 31, 32, 33, 34, 35, 36], [2, 3, 4, 10, 11, 12, 13, 14, 15, 16, 17, 18, 19, 20, 21, 22, 23, 24, 25, 26, 27, 28, 29, 30, 31, 32, 33, 34, 35, 36], [3, 4, 10, 11, 12, 13, 14, 15, 16, 17, 18, 19, 20, 21, 22, 23, 24, 25, 26, 27, 28, 29, 30, 31, 32, 33, 34, 35, 36], [4, 10, 11, 12, 13, 14, 15, 16, 17, 18, 19, 20, 21, 22, 23, 24, 25, 26, 27, 28, 29, 30, 31, 32, 33, 34, 35, 36], [10, 11, 12, 13, 14, 15, 16, 17, 18, 19, 20, 21, 22, 23, 24, 25, 26, 27, 28, 29, 30, 31, 32, 33, 34, 35, 36], [7, 8, 9, 10, 11, 12, 13, 14, 15, 16, 17, 18, 19, 20, 21, 22, 23, 24, 25, 26, 27, 28, 29, 30, 31, 32, 33, 34, 35, 36], [7, 8, 9, 10, 11, 12, 13, 14, 15, 16, 17, 18, 19, 20, 21, 22, 23, 24, 25, 26, 27, 28, 29, 30, 31, 32, 33, 34, 35, 36], [8, 9, 10, 11, 12, 13, 14, 15, 16, 17, 18, 19, 20, 21, 22, 23, 24, 25, 26, 27, 28, 29, 30, 31, 32, 33, 34, 35, 36], [9, 10, 11, 12, 13, 14, 15, 16, 17, 18, 19, 20, 21, 22, 23, 24, 25, 26, 27, 28, 29, 30, 31, 32, 33, 34, 35, 36], [10, 11, 12, 13, 14, 15, 16, 17, 18, 19, 20, 21, 22, 23, 24, 25, 26, 27, 28, 29, 30, 31, 32, 33, 34, 35, 36], [11, 12, 13, 14, 15, 16, 17, 18, 19, 20, 21, 22, 23, 24, 25, 26, 27, 28, 29, 30, 31, 32, 33, 34, 35, 36], [12, 13, 14, 15, 16, 17, 18, 19, 20, 21, 22, 23, 24, 25, 26, 27, 28, 29, 30, 31, 32, 33, 34, 35, 36], [13, 14, 15, 16, 17, 18, 19, 20, 21, 22, 23, 24, 25, 26, 27, 28, 29, 30, 31, 32, 33, 34, 35, 36], [15, 16, 17, 18, 19, 20, 21, 22, 23, 24, 25, 26, 27, 28, 29, 30, 31, 32, 33, 34, 35, 36], [15, 16, 17, 18, 19, 20, 21, 22, 23, 24, 25, 26, 27, 28, 29, 30, 31, 32, 33, 34, 35, 36], [16, 17, 18, 19, 20, 21, 22, 23, 24, 25, 26, 27, 28, 29, 30, 31, 32, 33, 34, 35, 36], [17, 18, 19, 20, 21, 22, 23, 24, 25, 26, 27, 28, 29, 30, 31, 32, 33, 34, 35, 36], [18, 19, 20, 21, 22, 23, 24, 25, 26, 27, 28, 29, 30, 31, 32, 33, 34, 35, 36], [19, 20, 21, 22, 23, 24, 25, 26, 27, 28, 29, 30, 31, 32, 33, 34, 35, 36], [20, 21, 22, 23, 24, 25, 26, 27, 28, 29, 30, 31, 32, 33, 34, 35, 36], [21, 22, 23, 24, 25, 26, 27, 28, 29, 30, 31, 32, 33, 34, 35, 36], [22, 23, 24, 25, 26, 27, 28, 29, 30, 31, 32, 33, 34, 35, 36], [23, 24, 25, 26, 27, 28, 29, 30, 31, 32, 33, 34, 35, 36], [25, 26, 27, 34, 35, 36], [25, 26, 27, 34, 35, 36], [26, 27, 34, 35, 36], [27, 34, 35, 36], [34, 35, 36], [31, 32, 33, 34, 35, 36], [30, 31, 32, 33, 34, 35, 36], [31, 32, 33, 34, 35, 36], [32, 33, 34, 35, 36], [33, 34, 35, 36], [34, 35, 36], [35, 36], [36], []] (by kernel_rfl) rfl ?_
        refine ta 0 rfl (rd_move rfl) ?_
        refine ta 1 rfl (rd_move rfl) ?_
        refine ta 2 rfl ((rd_indexAddr Try.underlying22 ei55 rfl rfl (by omega) (by omega)).eq (show _ = Value.pointer (some ⟨g, of + i * 3, none⟩) by simp)) ?_
        refine ta 3 rfl (rd_fa (off' := of + (i * 3 + 0)) rfl fld55_0 rfl) ?_
        refine ta 4 rfl (rd_ld rfl row9 (Vw.cells1 hV (by repeat (first | with_reducible exact Sel.head | apply Sel.tail)) (by omega) (flat_cell prC_len hx (j := 0) (by decide) rfl))) ?_
        refine ta 5 rfl (rd_move rfl) ?_
        refine ta 6 rfl (rd_move rfl) ?_
        refine ta 7 rfl ((rd_indexAddr Try.underlying22 ei55 rfl rfl (by omega) (by omega)).eq (show _ = Value.pointer (some ⟨g, of + i * 3, none⟩) by simp)) ?_
        refine ta 8 rfl (rd_fa (off' := of + (i * 3 + 1)) rfl fld55_1 (by omega)) ?_
        refine ta 9 rfl (rd_ld rfl row44 (Vw.cells1 hV (by repeat (first | with_reducible exact Sel.head | apply Sel.tail)) (by omega) (flat_cell prC_len hx (j := 1) (by decide) rfl))) ?_
        refine tr 10 ?_
        refine rc (hs := right_spec _ xk xA xb.length xc) (k := ?_)
        rintro ⟨⟩ -
        rw [hrB]
        try simp only [List.cons_append, List.nil_append]
        refine nx ?_
        refine any_next (by apply bd 9; apply bd 8; apply bd 7; apply bd 6; apply bd 5; apply bd 4; apply bd 3; apply bd 2; apply bd 1; apply bd 0; exact .nil) ?_
        refine ta 11 rfl (rd_not rfl) ?_
        refine ta 12 rfl (rd_move rfl) ?_
        first | refine ts 13 ?_ | refine ta 13 rfl (rd_move rfl) ?_
        first | refine ts 14 ?_ | refine ta 14 rfl (rd_move rfl) ?_
        first | refine ts 15 ?_ | refine ta 15 rfl ((rd_indexAddr Try.underlying22 ei55 rfl rfl (by omega) (by omega)).eq (show _ = Value.pointer (some ⟨g, of + i * 3, none⟩) by simp)) ?_
        first | refine ts 16 ?_ | refine ta 16 rfl (rd_fa (off' := of + (i * 3 + 2)) rfl fld55_2 (by omega)) ?_
        first | refine ts 17 ?_ | refine ta 17 rfl (rd_ld rfl row4 (Vw.cells1 hV (by repeat (first | with_reducible exact Sel.head | apply Sel.tail)) (by omega) (flat_cell prC_len hx (j := 2) (by decide) rfl))) ?_
        refine ta 18 rfl (rd_pick rfl rfl) ?_
        refine ta 19 rfl (rd_move rfl) ?_
        first | refine ts 20 ?_ | refine ta 20 rfl (rd_move rfl) ?_
        first | refine ts 21 ?_ | refine ta 21 rfl ((rd_gt rfl rfl).eq (congrArg Value.bool htI)) ?_
        first | refine ts 22 ?_ | refine ta 22 rfl (rd_move rfl) ?_
        first | refine ts 23 ?_ | refine ta 23 rfl (rd_move rfl) ?_
        first | refine ts 24 ?_ | refine ta 24 rfl (rd_move rfl) ?_
        first | refine ts 25 ?_ | refine ta 25 rfl ((rd_indexAddr Try.underlying22 ei55 rfl rfl (by omega) (by omega)).eq (show _ = Value.pointer (some ⟨g, of + i * 3, none⟩) by simp)) ?_
        first | refine ts 26 ?_ | refine ta 26 rfl (rd_fa (off' := of + (i * 3 + 0)) rfl fld55_0 rfl) ?_
        first | refine ts 27 ?_ | refine ta 27 rfl (rd_ld rfl row9 (Vw.cells1 hV (by repeat (first | with_reducible exact Sel.head | apply Sel.tail)) (by omega) (flat_cell prC_len hx (j := 0) (by decide) rfl))) ?_
        first | refine ts 28 ?_ | refine ta 28 rfl (rd_move rfl) ?_
        first | refine ts 29 ?_ | refine ta 29 rfl (rd_move rfl) ?_
        first | refine ts 30 ?_ | refine ta 30 rfl (rd_subi rfl rfl) ?_
        first | refine ts 31 ?_ | refine ta 31 rfl ((rd_indexAddr Try.underlying22 ei55 rfl rfl (by have := of_decide_eq_true htI; omega) (by omega)).eq (show _ = Value.pointer (some ⟨g, of + (i - 1) * 3, none⟩) by rw [show ((i : Int) - 1).toNat = i - 1 by omega])) ?_
        first | refine ts 32 ?_ | refine ta 32 rfl (rd_fa (off' := of + ((i - 1) * 3 + 0)) rfl fld55_0 rfl) ?_
        first | refine ts 33 ?_ | refine ta 33 rfl (rd_ld rfl row9 (Vw.cells1 (v := .string (strOf ym.k)) hV (by repeat (first | with_reducible exact Sel.head | apply Sel.tail)) (by omega) (flat_cell prC_len (hym (by have := of_decide_eq_true htI; omega)) (j := 0) (by decide) rfl))) ?_
        first | refine ts 34 ?_ | refine ta 34 rfl (rd_str_leq rfl rfl) ?_
        first | refine ts 35 ?_ | refine ta 35 rfl (rd_pick rfl rfl) ?_
        refine ta 36 rfl (rd_pick rfl rfl) ?_
        refine any_nil (by kernel_rfl) ?_
        refine St.then_n ?_
        exact St.sb (St.kq [(0, _), (3, _), (46, _)] (h := hK () trivial))
      · refine do_draw [[2, 3, 4, 10, 11, 12, 13, 14, 15, 16, 17, 18, 19, 20, 21, 22, 23, 24, 25, 26, 27, 28, 29, 30, 31, 32, 33, 34, 35, 36], [2, 3, 4, 10, 11, 12, 13, 14, 15, 16, 17, 18, 19, 20, 21, 22, 23, 24, 25, 26, 27, 28, 29, 30, 31, 32, 33, 34, 35, 36], [3, 4, 10, 11, 12, 13, 14, 15, 16, 17, 18, 19, 20, 21, 22, 23, 24, 25, 26, 27, 28, 29, 30, 31, 32, 33, 34, 35, 36], [4, 10, 11, 12, 13, 14, 15, 16, 17, 18, 19, 20, 21, 22, 23, 24, 25, 26, 27, 28, 29, 30, 31, 32, 33, 34, 35, 36], [10, 11, 12, 13, 14, 15, 16, 17, 18, 19, 20, 21, 22, 23, 24, 25, 26, 27, 28, 29, 30, 31, 32, 33, 34, 35, 36], [7, 8, 9, 10, 11, 12, 13, 14, 15, 16, 17, 18, 19, 20, 21, 22, 23, 24, 25, 26, 27, 28, 29, 30, 31, 32, 33, 34, 35, 36], [7, 8, 9, 10, 11, 12, 13, 14, 15, 16, 17, 18, 19, 20, 21, 22, 23, 24, 25, 26, 27, 28, 29, 30, 31, 32, 33, 34, 35, 36], [8, 9, 10, 11, 12, 13, 14, 15, 16, 17, 18, 19, 20, 21, 22, 23, 24, 25, 26, 27, 28, 29, 30, 31, 32, 33, 34, 35, 36], [9, 10, 11, 12, 13, 14, 15, 16, 17, 18, 19, 20, 21, 22, 23, 24, 25, 26, 27, 28, 29, 30, 31, 32, 33, 34, 35, 36], [10, 11, 12, 13, 14, 15, 16, 17, 18, 19, 20, 21, 22, 23, 24, 25, 26, 27, 28, 29, 30, 31, 32, 33, 34, 35, 36], [11, 12, 13, 14, 15, 16, 17, 18, 19, 20, 21, 22, 23, 24, 25, 26, 27, 28, 29, 30, 31, 32, 33, 34, 35, 36], [12, 13, 14, 15, 16, 17, 18, 19, 20, 21, 22, 23, 24, 25, 26, 27, 28, 29, 30, 31, 32, 33, 34, 35, 36], [13, 14, 15, 16, 17, 18, 19, 20, 21, 22, 23, 24, 25, 26, 27, 28, 29, 30, 31, 32, 33, 34, 35, 36], [15, 16, 17, 18, 19, 20, 21, 22, 23, 24, 25, 26, 27, 28, 29, 30, 31, 32, 33, 34, 35, 36], [15, 16, 17, 18, 19, 20, 21, 22, 23, 24, 25, 26, 27, 28, 29, 30, 31, 32, 33, 34, 35, 36], [16, 17, 18, 19, 20, 21, 22, 23, 24, 25, 26, 27, 28, 29, 30, 31, 32, 33, 34, 35, 36], [17, 18, 19, 20, 21, 22, 23, 24, 25, 26, 27, 28, 29, 30, 31, 32, 33, 34, 35, 36], [18, 19, 20, 21, 22, 23, 24, 25, 26, 27, 28, 29, 30, 31, 32, 33, 34, 35, 36], [19, 20, 21, 22, 23, 24, 25, 26, 27, 28, 29, 30, 31, 32, 33, 34, 35, 36], [20, 21, 22, 23, 24, 25, 26, 27, 28, 29, 30, 31, 32, 33, 34, 35, 36], [21, 22, 23, 24, 25, 26, 27, 28, 29, 30, 31, 32, 33, 34, 35, 36], [22, 23, 24, 25, 26, 27, 28, 29, 30, 31, 32, 33, 34, 35, 36], [23, 24, 25, 26, 27, 28, 29, 30, 31, 32, 33, 34, 35, 36], [25, 26, 27, 34, 35, 36], [25, 26, 27, 34, 35, 36], [26, 27, 34, 35, 36], [27, 34, 35, 36], [34, 35, 36], [31, 32, 33, 34, 35, 36], [30, 31, 32, 33, 34, 35, 36], [31, 32, 33, 34, 35, 36], [32, 33, 34, 35, 36], [33, 34, 35, 36], [34, 35, 36], [35, 36], [36], []] (by kernel_rfl) rfl ?_
        refine ta 0 rfl (rd_move rfl) ?_
        refine ta 1 rfl (rd_move rfl) ?_
        refine ta 2 rfl ((rd_indexAddr Try.underlying22 ei55 rfl rfl (by omega) (by omega)).eq (show _ = Value.pointer (some ⟨g, of + i * 3, none⟩) by simp)) ?_
        refine ta 3 rfl (rd_fa (off' := of + (i * 3 + 0)) rfl fld55_0 rfl) ?_
        refine ta 4 rfl (rd_ld rfl row9 (Vw.cells1 hV (by repeat (first | with_reducible exact Sel.head | apply Sel.tail)) (by omega) (flat_cell prC_len hx (j := 0) (by decide) rfl))) ?_
        refine ta 5 rfl (rd_move rfl) ?_
        refine ta 6 rfl (rd_move rfl) ?_
        refine ta 7 rfl ((rd_indexAddr Try.underlying22 ei55 rfl rfl (by omega) (by omega)).eq (show _ = Value.pointer (some ⟨g, of + i * 3, none⟩) by simp)) ?_
        refine ta 8 rfl (rd_fa (off' := of + (i * 3 + 1)) rfl fld55_1 (by omega)) ?_
        refine ta 9 rfl (rd_ld rfl row44 (Vw.cells1 hV (by repeat (first | with_reducible exact Sel.head | apply Sel.tail)) (by omega) (flat_cell prC_len hx (j := 1) (by decide) rfl))) ?_
        refine tr 10 ?_
        refine rc (hs := right_spec _ xk xA xb.length xc) (k := ?_)
        rintro ⟨⟩ -
        rw [hrB]
        try simp only [List.cons_append, List.nil_append]
        refine nx ?_
        refine any_next (by apply bd 9; apply bd 8; apply bd 7; apply bd 6; apply bd 5; apply bd 4; apply bd 3; apply bd 2; apply bd 1; apply bd 0; exact .nil) ?_
        refine ta 11 rfl (rd_not rfl) ?_
        refine ta 12 rfl (rd_move rfl) ?_
        first | refine ts 13 ?_ | refine ta 13 rfl (rd_move rfl) ?_
        first | refine ts 14 ?_ | refine ta 14 rfl (rd_move rfl) ?_
        first | refine ts 15 ?_ | refine ta 15 rfl ((rd_indexAddr Try.underlying22 ei55 rfl rfl (by omega) (by omega)).eq (show _ = Value.pointer (some ⟨g, of + i * 3, none⟩) by simp)) ?_
        first | refine ts 16 ?_ | refine ta 16 rfl (rd_fa (off' := of + (i * 3 + 2)) rfl fld55_2 (by omega)) ?_
        first | refine ts 17 ?_ | refine ta 17 rfl (rd_ld rfl row4 (Vw.cells1 hV (by repeat (first | with_reducible exact Sel.head | apply Sel.tail)) (by omega) (flat_cell prC_len hx (j := 2) (by decide) rfl))) ?_
        refine ta 18 rfl (rd_pick rfl rfl) ?_
        refine ta 19 rfl (rd_move rfl) ?_
        first | refine ts 20 ?_ | refine ta 20 rfl (rd_move rfl) ?_
        first | refine ts 21 ?_ | refine ta 21 rfl ((rd_gt rfl rfl).eq (congrArg Value.bool htI)) ?_
        first | refine ts 22 ?_ | refine ta 22 rfl (rd_move rfl) ?_
        first | refine ts 23 ?_ | refine ta 23 rfl (rd_move rfl) ?_
        first | refine ts 24 ?_ | refine ta 24 rfl (rd_move rfl) ?_
        first | refine ts 25 ?_ | refine ta 25 rfl ((rd_indexAddr Try.underlying22 ei55 rfl rfl (by omega) (by omega)).eq (show _ = Value.pointer (some ⟨g, of + i * 3, none⟩) by simp)) ?_
        first | refine ts 26 ?_ | refine ta 26 rfl (rd_fa (off' := of + (i * 3 + 0)) rfl fld55_0 rfl) ?_
        first | refine ts 27 ?_ | refine ta 27 rfl (rd_ld rfl row9 (Vw.cells1 hV (by repeat (first | with_reducible exact Sel.head | apply Sel.tail)) (by omega) (flat_cell prC_len hx (j := 0) (by decide) rfl))) ?_
        first | refine ts 28 ?_ | refine ta 28 rfl (rd_move rfl) ?_
        first | refine ts 29 ?_ | refine ta 29 rfl (rd_move rfl) ?_
        first | refine ts 30 ?_ | refine ta 30 rfl (rd_subi rfl rfl) ?_
        first | refine ts 31 ?_ | refine ta 31 rfl ((rd_indexAddr Try.underlying22 ei55 rfl rfl (by have := of_decide_eq_true htI; omega) (by omega)).eq (show _ = Value.pointer (some ⟨g, of + (i - 1) * 3, none⟩) by rw [show ((i : Int) - 1).toNat = i - 1 by omega])) ?_
        first | refine ts 32 ?_ | refine ta 32 rfl (rd_fa (off' := of + ((i - 1) * 3 + 0)) rfl fld55_0 rfl) ?_
        first | refine ts 33 ?_ | refine ta 33 rfl (rd_ld rfl row9 (Vw.cells1 (v := .string (strOf ym.k)) hV (by repeat (first | with_reducible exact Sel.head | apply Sel.tail)) (by omega) (flat_cell prC_len (hym (by have := of_decide_eq_true htI; omega)) (j := 0) (by decide) rfl))) ?_
        first | refine ts 34 ?_ | refine ta 34 rfl (rd_str_leq rfl rfl) ?_
        first | refine ts 35 ?_ | refine ta 35 rfl (rd_pick rfl rfl) ?_
        refine ta 36 rfl (rd_pick rfl rfl) ?_
        refine any_nil (by kernel_rfl) ?_
        refine St.then_n ?_
        exact St.sb (St.kq [(0, _), (3, _), (46, _)] (h := hK () trivial))
      · refine do_draw [[2, 3, 4, 10, 11, 12, 13, 14, 15, 16, 17, 18, 19, 20, 21, 22, 23, 24, 25, 26, 27, 28, 29, 30, 31, 32, 33, 34, 35, 36], [2, 3, 4, 10, 11, 12, 13, 14, 15, 16, 17, 18, 19, 20, 21, 22, 23, 24, 25, 26, 27, 28, 29, 30, 31, 32, 33, 34, 35, 36], [3, 4, 10, 11, 12, 13, 14, 15, 16, 17, 18, 19, 20, 21, 22, 23, 24, 25, 26, 27, 28, 29, 30, 31, 32, 33, 34, 35, 36], [4, 10, 11, 12, 13, 14, 15, 16, 17, 18, 19, 20, 21, 22, 23, 24, 25, 26, 27, 28, 29, 30, 31, 32, 33, 34, 35, 36], [10, 11, 12, 13, 14, 15, 16, 17, 18, 19, 20, 21, 22, 23, 24, 25, 26, 27, 28, 29, 30, 31, 32, 33, 34, 35, 36], [7, 8, 9, 10, 11, 12, 13, 14, 15, 16, 17, 18, 19, 20, 21, 22, 23, 24, 25, 26, 27, 28, 29, 30, 31, 32, 33, 34, 35, 36], [7, 8, 9, 10, 11, 12, 13, 14, 15, 16, 17, 18, 19, 20, 21, 22, 23, 24, 25, 26, 27, 28, 29, 30, 31, 32, 33, 34, 35, 36], [8, 9, 10, 11, 12, 13, 14, 15, 16, 17, 18, 19, 20, 21, 22, 23, 24, 25, 26, 27, 28, 29, 30, 31, 32, 33, 34, 35, 36], [9, 10, 11, 12, 13, 14, 15, 16, 17, 18, 19, 20, 21, 22, 23, 24, 25, 26, 27, 28, 29, 30, 31, 32, 33, 34, 35, 36], [10, 11, 12, 13, 14, 15, 16, 17, 18, 19, 20, 21, 22, 23, 24, 25, 26, 27, 28, 29, 30, 31, 32, 33, 34, 35, 36], [11, 12, 13, 14, 15, 16, 17, 18, 19, 20, 21, 22, 23, 24, 25, 26, 27, 28, 29, 30, 31, 32, 33, 34, 35, 36], [12, 13, 14, 15, 16, 17, 18, 19, 20, 21, 22, 23, 24, 25, 26, 27, 28, 29, 30, 31, 32, 33, 34, 35, 36], [13, 14, 15, 16, 17, 18, 19, 20, 21, 22, 23, 24, 25, 26, 27, 28, 29, 30, 31, 32, 33, 34, 35, 36], [15, 16, 17, 18, 19, 20, 21, 22, 23, 24, 25, 26, 27, 28, 29, 30, 31, 32, 33, 34, 35, 36], [15, 16, 17, 18, 19, 20, 21, 22, 23, 24, 25, 26, 27, 28, 29, 30, 31, 32, 33, 34, 35, 36], [16, 17, 18, 19, 20, 21, 22, 23, 24, 25, 26, 27, 28, 29, 30, 31, 32, 33, 34, 35, 36], [17, 18, 19, 20, 21, 22, 23, 24, 25, 26, 27, 28, 29, 30, 31, 32, 33, 34, 35, 36], [18, 19, 20, 21, 22, 23, 24, 25, 26, 27, 28, 29, 30, 31, 32, 33, 34, 35, 36], [19, 20, 21, 22, 23, 24, 25, 26, 27, 28, 29, 30, 31, 32, 33, 34, 35, 36], [20, 21, 22, 23, 24, 25, 26, 27, 28, 29, 30, 31, 32, 33, 34, 35, 36], [21, 22, 23, 24, 25, 26, 27, 28, 29, 30, 31, 32, 33, 34, 35, 36], [22, 23, 24, 25, 26, 27, 28, 29, 30, 31, 32, 33, 34, 35, 36], [23, 24, 25, 26, 27, 28, 29, 30, 31, 32, 33, 34, 35, 36], [25, 26, 27, 34, 35, 36], [25, 26, 27, 34, 35, 36], [26, 27, 34, 35, 36], [27, 34, 35, 36], [34, 35, 36], [31, 32, 33, 34, 35, 36], [30, 31, 32, 33, 34, 35, 36], [31, 32, 33, 34, 35, 36], [32, 33, 34, 35, 36], [33, 34, 35, 36], [34, 35, 36], [35, 36], [36], []] (by kernel_rfl) rfl ?_
        refine ta 0 rfl (rd_move rfl) ?_
        refine ta 1 rfl (rd_move rfl) ?_
        refine ta 2 rfl ((rd_indexAddr Try.underlying22 ei55 rfl rfl (by omega) (by omega)).eq (show _ = Value.pointer (some ⟨g, of + i * 3, none⟩) by simp)) ?_
        refine ta 3 rfl (rd_fa (off' := of + (i * 3 + 0)) rfl fld55_0 rfl) ?_
        refine ta 4 rfl (rd_ld rfl row9 (Vw.cells1 hV (by repeat (first | with_reducible exact Sel.head | apply Sel.tail)) (by omega) (flat_cell prC_len hx (j := 0) (by decide) rfl))) ?_
        refine ta 5 rfl (rd_move rfl) ?_
        refine ta 6 rfl (rd_move rfl) ?_
        refine ta 7 rfl ((rd_indexAddr Try.underlying22 ei55 rfl rfl (by omega) (by omega)).eq (show _ = Value.pointer (some ⟨g, of + i * 3, none⟩) by simp)) ?_
        refine ta 8 rfl (rd_fa (off' := of + (i * 3 + 1)) rfl fld55_1 (by omega)) ?_
        refine ta 9 rfl (rd_ld rfl row44 (Vw.cells1 hV (by repeat (first | with_reducible exact Sel.head | apply Sel.tail)) (by omega) (flat_cell prC_len hx (j := 1) (by decide) rfl))) ?_
        refine tr 10 ?_
        refine rc (hs := right_spec _ xk xA xb.length xc) (k := ?_)
        rintro ⟨⟩ -
        rw [hrB]
        try simp only [List.cons_append, List.nil_append]
        refine nx ?_
        refine any_next (by apply bd 9; apply bd 8; apply bd 7; apply bd 6; apply bd 5; apply bd 4; apply bd 3; apply bd 2; apply bd 1; apply bd 0; exact .nil) ?_
        refine ta 11 rfl (rd_not rfl) ?_
        refine ta 12 rfl (rd_move rfl) ?_
        first | refine ts 13 ?_ | refine ta 13 rfl (rd_move rfl) ?_
        first | refine ts 14 ?_ | refine ta 14 rfl (rd_move rfl) ?_
        first | refine ts 15 ?_ | refine ta 15 rfl ((rd_indexAddr Try.underlying22 ei55 rfl rfl (by omega) (by omega)).eq (show _ = Value.pointer (some ⟨g, of + i * 3, none⟩) by simp)) ?_
        first | refine ts 16 ?_ | refine ta 16 rfl (rd_fa (off' := of + (i * 3 + 2)) rfl fld55_2 (by omega)) ?_
        first | refine ts 17 ?_ | refine ta 17 rfl (rd_ld rfl row4 (Vw.cells1 hV (by repeat (first | with_reducible exact Sel.head | apply Sel.tail)) (by omega) (flat_cell prC_len hx (j := 2) (by decide) rfl))) ?_
        refine ta 18 rfl (rd_pick rfl rfl) ?_
        refine ta 19 rfl (rd_move rfl) ?_
        first | refine ts 20 ?_ | refine ta 20 rfl (rd_move rfl) ?_
        first | refine ts 21 ?_ | refine ta 21 rfl ((rd_gt rfl rfl).eq (congrArg Value.bool htI)) ?_
        first | refine ts 22 ?_ | refine ta 22 rfl (rd_move rfl) ?_
        first | refine ts 23 ?_ | refine ta 23 rfl (rd_move rfl) ?_
        first | refine ts 24 ?_ | refine ta 24 rfl (rd_move rfl) ?_
        first | refine ts 25 ?_ | refine ta 25 rfl ((rd_indexAddr Try.underlying22 ei55 rfl rfl (by omega) (by omega)).eq (show _ = Value.pointer (some ⟨g, of + i * 3, none⟩) by simp)) ?_
        first | refine ts 26 ?_ | refine ta 26 rfl (rd_fa (off' := of + (i * 3 + 0)) rfl fld55_0 rfl) ?_
        first | refine ts 27 ?_ | refine ta 27 rfl (rd_ld rfl row9 (Vw.cells1 hV (by repeat (first | with_reducible exact Sel.head | apply Sel.tail)) (by omega) (flat_cell prC_len hx (j := 0) (by decide) rfl))) ?_
        first | refine ts 28 ?_ | refine ta 28 rfl (rd_move rfl) ?_
        first | refine ts 29 ?_ | refine ta 29 rfl (rd_move rfl) ?_
        first | refine ts 30 ?_ | refine ta 30 rfl (rd_subi rfl rfl) ?_
        first | refine ts 31 ?_ | refine ta 31 rfl ((rd_indexAddr Try.underlying22 ei55 rfl rfl (by have := of_decide_eq_true htI; omega) (by omega)).eq (show _ = Value.pointer (some ⟨g, of + (i - 1) * 3, none⟩) by rw [show ((i : Int) - 1).toNat = i - 1 by omega])) ?_
        first | refine ts 32 ?_ | refine ta 32 rfl (rd_fa (off' := of + ((i - 1) * 3 + 0)) rfl fld55_0 rfl) ?_
        first | refine ts 33 ?_ | refine ta 33 rfl (rd_ld rfl row9 (Vw.cells1 (v := .string (strOf ym.k)) hV (by repeat (first | with_reducible exact Sel.head | apply Sel.tail)) (by omega) (flat_cell prC_len (hym (by have := of_decide_eq_true htI; omega)) (j := 0) (by decide) rfl))) ?_
        first | refine ts 34 ?_ | refine ta 34 rfl (rd_str_leq rfl rfl) ?_
        first | refine ts 35 ?_ | refine ta 35 rfl (rd_pick rfl rfl) ?_
        refine ta 36 rfl (rd_pick rfl rfl) ?_
        refine any_nil (by kernel_rfl) ?_
        refine St.then_n ?_
        exact St.sb (St.kq [(0, _), (3, _), (46, _)] (h := hK () trivial))
      · refine do_draw [[2, 3, 4, 10, 11, 12, 13, 14, 15, 16, 17, 18, 19, 20, 21, 22, 23, 24, 25, 26, 27, 28, 29, 30, 31, 32, 33, 34, 35, 36], [2, 3, 4, 10, 11, 12, 13, 14, 15, 16, 17, 18, 19, 20, 21, 22, 23, 24, 25, 26, 27, 28, 29, 30, 31, 32, 33, 34, 35, 36], [3, 4, 10, 11, 12, 13, 14, 15, 16, 17, 18, 19, 20, 21, 22, 23, 24, 25, 26, 27, 28, 29, 30, 31, 32, 33, 34, 35, 36], [4, 10, 11, 12, 13, 14, 15, 16, 17, 18, 19, 20, 21, 22, 23, 24, 25, 26, 27, 28, 29, 30, 31, 32, 33, 34, 35, 36], [10, 11, 12, 13, 14, 15, 16, 17, 18, 19, 20, 21, 22, 23, 24, 25, 26, 27, 28, 29, 30, 31, 32, 33, 34, 35, 36], [7, 8, 9, 10, 11, 12, 13, 14, 15, 16, 17, 18, 19, 20, 21, 22, 23, 24, 25, 26, 27, 28, 29, 30, 31, 32, 33, 34, 35, 36], [7, 8, 9, 10, 11, 12, 13, 14, 15, 16, 17, 18, 19, 20, 21, 22, 23, 24, 25, 26, 27, 28, 29, 30, 31, 32, 33, 34, 35, 36], [8, 9, 10, 11, 12, 13, 14, 15, 16, 17, 18, 19, 20, 21, 22, 23, 24, 25, 26, 27, 28, 29, 30, 31, 32, 33, 34, 35, 36], [9, 10, 11, 12, 13, 14, 15, 16, 17, 18, 19, 20, 21, 22, 23, 24, 25, 26, 27, 28, 29, 30, 31, 32, 33, 34, 35, 36], [10, 11, 12, 13, 14, 15, 16, 17, 18, 19, 20, 21, 22, 23, 24, 25, 26, 27, 28, 29, 30, 31, 32, 33, 34, 35, 36], [11, 12, 13, 14, 15, 16, 17, 18, 19, 20, 21, 22, 23, 24, 25, 26, 27, 28, 29, 30, 31, 32, 33, 34, 35, 36], [12, 13, 14, 15, 16, 17, 18, 19, 20, 21, 22, 23, 24, 25, 26, 27, 28, 29, 30, 31, 32, 33, 34, 35, 36], [13, 14, 15, 16, 17, 18, 19, 20, 21, 22, 23, 24, 25, 26, 27, 28, 29, 30, 31, 32, 33, 34, 35, 36], [15, 16, 17, 18, 19, 20, 21, 22, 23, 24, 25, 26, 27, 28, 29, 30, 31, 32, 33, 34, 35, 36], [15, 16, 17, 18, 19, 20, 21, 22, 23, 24, 25, 26, 27, 28, 29, 30, 31, 32, 33, 34, 35, 36], [16, 17, 18, 19, 20, 21, 22, 23, 24, 25, 26, 27, 28, 29, 30, 31, 32, 33, 34, 35, 36], [17, 18, 19, 20, 21, 22, 23, 24, 25, 26, 27, 28, 29, 30, 31, 32, 33, 34, 35, 36], [18, 19, 20, 21, 22, 23, 24, 25, 26, 27, 28, 29, 30, 31, 32, 33, 34, 35, 36], [19, 20, 21, 22, 23, 24, 25, 26, 27, 28, 29, 30, 31, 32, 33, 34, 35, 36], [20, 21, 22, 23, 24, 25, 26, 27, 28, 29, 30, 31, 32, 33, 34, 35, 36], [21, 22, 23, 24, 25, 26, 27, 28, 29, 30, 31, 32, 33, 34, 35, 36], [22, 23, 24, 25, 26, 27, 28, 29, 30, 31, 32, 33, 34, 35, 36], [23, 24, 25, 26, 27, 28, 29, 30, 31, 32, 33, 34, 35, 36], [25, 26, 27, 34, 35, 36], [25, 26, 27, 34, 35, 36], [26, 27, 34, 35, 36], [27, 34, 35, 36], [34, 35, 36], [31, 32, 33, 34, 35, 36], [30, 31, 32, 33, 34, 35, 36], [31, 32, 33, 34, 35, 36], [32, 33, 34, 35, 36], [33, 34, 35, 36], [34, 35, 36], [35, 36], [36], []] (by kernel_rfl) rfl ?_
        refine ta 0 rfl (rd_move rfl) ?_
        refine ta 1 rfl (rd_move rfl) ?_
        refine ta 2 rfl ((rd_indexAddr Try.underlying22 ei55 rfl rfl (by omega) (by omega)).eq (show _ = Value.pointer (some ⟨g, of + i * 3, none⟩) by simp)) ?_
        refine ta 3 rfl (rd_fa (off' := of + (i * 3 + 0)) rfl fld55_0 rfl) ?_
        refine ta 4 rfl (rd_ld rfl row9 (Vw.cells1 hV (by repeat (first | with_reducible exact Sel.head | apply Sel.tail)) (by omega) (flat_cell prC_len hx (j := 0) (by decide) rfl))) ?_
        refine ta 5 rfl (rd_move rfl) ?_
        refine ta 6 rfl (rd_move rfl) ?_
        refine ta 7 rfl ((rd_indexAddr Try.underlying22 ei55 rfl rfl (by omega) (by omega)).eq (show _ = Value.pointer (some ⟨g, of + i * 3, none⟩) by simp)) ?_
        refine ta 8 rfl (rd_fa (off' := of + (i * 3 + 1)) rfl fld55_1 (by omega)) ?_
        refine ta 9 rfl (rd_ld rfl row44 (Vw.cells1 hV (by repeat (first | with_reducible exact Sel.head | apply Sel.tail)) (by omega) (flat_cell prC_len hx (j := 1) (by decide) rfl))) ?_
        refine tr 10 ?_
        refine rc (hs := right_spec _ xk xA xb.length xc) (k := ?_)
        rintro ⟨⟩ -
        rw [hrB]
        try simp only [List.cons_append, List.nil_append]
        refine nx ?_
        refine any_next (by apply bd 9; apply bd 8; apply bd 7; apply bd 6; apply bd 5; apply bd 4; apply bd 3; apply bd 2; apply bd 1; apply bd 0; exact .nil) ?_
        refine ta 11 rfl (rd_not rfl) ?_
        refine ta 12 rfl (rd_move rfl) ?_
        first | refine ts 13 ?_ | refine ta 13 rfl (rd_move rfl) ?_
        first | refine ts 14 ?_ | refine ta 14 rfl (rd_move rfl) ?_
        first | refine ts 15 ?_ | refine ta 15 rfl ((rd_indexAddr Try.underlying22 ei55 rfl rfl (by omega) (by omega)).eq (show _ = Value.pointer (some ⟨g, of + i * 3, none⟩) by simp)) ?_
        first | refine ts 16 ?_ | refine ta 16 rfl (rd_fa (off' := of + (i * 3 + 2)) rfl fld55_2 (by omega)) ?_
        first | refine ts 17 ?_ | refine ta 17 rfl (rd_ld rfl row4 (Vw.cells1 hV (by repeat (first | with_reducible exact Sel.head | apply Sel.tail)) (by omega) (flat_cell prC_len hx (j := 2) (by decide) rfl))) ?_
        refine ta 18 rfl (rd_pick rfl rfl) ?_
        refine ta 19 rfl (rd_move rfl) ?_
        first | refine ts 20 ?_ | refine ta 20 rfl (rd_move rfl) ?_
        first | refine ts 21 ?_ | refine ta 21 rfl ((rd_gt rfl rfl).eq (congrArg Value.bool htI)) ?_
        first | refine ts 22 ?_ | refine ta 22 rfl (rd_move rfl) ?_
        first | refine ts 23 ?_ | refine ta 23 rfl (rd_move rfl) ?_
        first | refine ts 24 ?_ | refine ta 24 rfl (rd_move rfl) ?_
        first | refine ts 25 ?_ | refine ta 25 rfl ((rd_indexAddr Try.underlying22 ei55 rfl rfl (by omega) (by omega)).eq (show _ = Value.pointer (some ⟨g, of + i * 3, none⟩) by simp)) ?_
        first | refine ts 26 ?_ | refine ta 26 rfl (rd_fa (off' := of + (i * 3 + 0)) rfl fld55_0 rfl) ?_
        first | refine ts 27 ?_ | refine ta 27 rfl (rd_ld rfl row9 (Vw.cells1 hV (by repeat (first | with_reducible exact Sel.head | apply Sel.tail)) (by omega) (flat_cell prC_len hx (j := 0) (by decide) rfl))) ?_
        first | refine ts 28 ?_ | refine ta 28 rfl (rd_move rfl) ?_
        first | refine ts 29 ?_ | refine ta 29 rfl (rd_move rfl) ?_
        first | refine ts 30 ?_ | refine ta 30 rfl (rd_subi rfl rfl) ?_
        first | refine ts 31 ?_ | refine ta 31 rfl ((rd_indexAddr Try.underlying22 ei55 rfl rfl (by have := of_decide_eq_true htI; omega) (by omega)).eq (show _ = Value.pointer (some ⟨g, of + (i - 1) * 3, none⟩) by rw [show ((i : Int) - 1).toNat = i - 1 by omega])) ?_
        first | refine ts 32 ?_ | refine ta 32 rfl (rd_fa (off' := of + ((i - 1) * 3 + 0)) rfl fld55_0 rfl) ?_
        first | refine ts 33 ?_ | refine ta 33 rfl (rd_ld rfl row9 (Vw.cells1 (v := .string (strOf ym.k)) hV (by repeat (first | with_reducible exact Sel.head | apply Sel.tail)) (by omega) (flat_cell prC_len (hym (by have := of_decide_eq_true htI; omega)) (j := 0) (by decide) rfl))) ?_
        first | refine ts 34 ?_ | refine ta 34 rfl (rd_str_leq rfl rfl) ?_
        first | refine ts 35 ?_ | refine ta 35 rfl (rd_pick rfl rfl) ?_
        refine ta 36 rfl (rd_pick rfl rfl) ?_
        refine any_nil (by kernel_rfl) ?_
        refine St.then_n ?_
        exact St.sb (St.kq [(0, _), (3, _), (46, _)] (h := hK () trivial))
    rintro ⟨⟩ -
    first | refine do_condp rfl (fun h46 => ?_) (fun h46 => ?_) | refine do_cond rfl (fun h46 => ?_) (fun h46 => ?_)
    · refine sr ?_
      refine rr (rd_assign rfl) ?_
      refine nx ?_
      refine do_ret ?_
      refine St.blk_r ?_
      refine St.then_r ?_
      refine St.then_r ?_
      refine St.blk_r ?_
      refine St.then_r ?_
      refine do_ret1 Try.results6 (res_tmp rfl) ?_
      intro w hw
      refine ⟨(), trivial, ?_, hw.sb⟩
      rw [riseB_f fun hr => ?_]
      have o1 := hr.ok _ hxm
      have o2 := hr.del _ hxm
      dsimp only at o1 o2
      subst o2
      rw [decide_eq_true ⟨o1.k1, o1.k24, o1.b80⟩] at hrB
      subst hrB
      have h6 : 0 < i ∧ cmpB xk ym.k ≤ 0 := by
        cases tI with
        | false => simp at h46
        | true => exact ⟨by have := of_decide_eq_true htI; omega, by simpa using h46⟩
      have h7 := rise_adj hr h6.1 hx (hym h6.1)
      have h8 := cmpB_swap ym.k xk
      dsimp only at h7
      omega
    · have hbad : rB = true ∧ xd = false ∧ (tI = true → ¬ cmpB xk ym.k ≤ 0) := by
        cases rB <;> cases xd <;> cases tI <;> simp at h46 ⊢
        exact h46
      obtain ⟨rfl, rfl, h5⟩ := hbad
      obtain ⟨r1, r2, r3⟩ := of_decide_eq_true hrB
      refine do_skip ?_
      refine St.blk_n ?_
      refine St.then_n ?_
      refine do_region ?_
      refine rr (rd_move rfl) ?_
      refine rr (rd_addi rfl rfl) ?_
      refine rr (rd_assign rfl) ?_
      refine nx ?_
      refine loop_bk (i + 1) ⟨by omega, rise_step hR hx ⟨r1, r2, r3⟩ rfl (fun y h0 hy => ?_)⟩ (hμ := by omega)
      have hyy := hym h0
      obtain rfl : ym = y := Option.some.inj (hyy.symm.trans hy)
      have := h5 (by rw [← htI]; exact decide_eq_true (by omega))
      have h6 := cmpB_swap ym.k xk
      show cmpB ym.k xk < 0
      omega
  · obtain rfl : i = n := by omega
    rw [List.take_of_length_le (by omega)] at hR
    refine do_exit ?_
    refine St.then_x ?_
    refine St.then_x ?_
    refine St.blk_s ?_
    refine St.then_n ?_
    refine sr ?_
    refine rr (rd_assign rfl) ?_
    refine run_nil ?_
    refine St.kp [(2, _)] ?_
    refine St.then_n ?_
    refine do_ret ?_
    refine do_ret1 Try.results6 (res_tmp rfl) ?_
    intro w hw
    exact ⟨(), trivial, by rw [riseB_t.2 hR], hw.sb⟩
end Go.Proofs.Ytgeldfgcicjidaa
