/-
  Looking for a key in a tree; a key that is not there is not deleted.
-/
import Derived.Test.YtgeldfgcicjidaaT13
namespace Go.Proofs.Ytgeldfgcicjidaa
open Go.RowKit
set_option linter.unusedSimpArgs false
set_option linter.unusedVariables false

theorem fndK_nil (key : List UInt8) : fndK [] key = false := rfl
set_option maxHeartbeats 4000000 in
theorem btGet_spec (F : HP) (t p d k : Nat) (root : Int) (S : PS) (hS : S.good k) (dep r : Nat) (l : List KV) (hT : IsR S dep r root l) (hs : KSrt l) (key : List UInt8) :
    Spec Try.prog 40 [.pointer (some ⟨t, 0, none⟩), .string (strOf key)] [treeO t p root, pagerO d p S] F (fun _ : Option Addr × Nat => True) (fun x => .tuple #[.slice x.1 (valK l key).length x.2, .bool (fndK l key), .int .i64 0]) (fun x => [bytesO (.slice x.1 (valK l key).length x.2) (valK l key), treeO t p root, pagerO d p S]) := by
  intro ω w hh
  refine enter Try.func40 rfl Try.ntmps40 rfl hh ?_
  simp only [List.cons_append, List.nil_append, argsB]
  refine St.sl (P := treeO t p root) (St.ent (Q := pts t 71 [.pointer (some ⟨p, 0, none⟩), .int .i64 root]) (fun _ h => h) ?_)
  obtain ⟨V, hV⟩ : ∃ V, valK l key = V := ⟨_, rfl⟩
  obtain ⟨B, hB⟩ : ∃ B, fndK l key = B := ⟨_, rfl⟩
  have hVB : B = false → V = [] := fun h => by rw [← hV]; unfold valK; rw [hB, h]; rfl
  rw [hV, hB]
  refine sr ?_
  refine rr (rd_assign rfl) ?_
  refine rr (rd_assign rfl) ?_
  refine rr (rd_assign rfl) ?_
  refine nx ?_
  refine do_seq ?_
  refine sr ?_
  refine rr (rd_move rfl) ?_
  refine rr (rd_ptr_eq_nil Try.underlying29 rfl rfl) ?_
  refine run_nil ?_
  refine St.kp [(0, _), (1, _), (12, _)] ?_
  refine St.then_n ?_
  refine do_cond_f rfl ?_
  refine do_skip ?_
  refine St.then_n ?_
  refine do_seq ?_
  refine sr ?_
  refine rr (rd_move rfl) ?_
  refine rr (rd_nilCheck rfl) ?_
  refine rr (rd_fa rfl fld71_1) ?_
  refine rr (rd_ld rfl row3) ?_
  refine rr (rd_assign rfl) ?_
  refine run_nil ?_
  refine St.kp [(0, _), (1, _), (7, _)] ?_
  refine St.then_n ?_
  refine do_block ?_
  refine St.sl (P := pts t 71 [.pointer (some ⟨p, 0, none⟩), .int .i64 root]) (St.ent (Q := treeO t p root) (fun _ h => h) ?_)
  refine do_lp (fun y : Int × Nat × Nat × List KV => IsR S y.2.1 y.2.2.1 y.1 y.2.2.2 ∧ KSrt y.2.2.2 ∧ valK y.2.2.2 key = V ∧ fndK y.2.2.2 key = B) (fun y => [(0, .pointer (some ⟨t, 0, none⟩)), (1, .string (strOf key)), (7, .int .i64 y.1)]) (fun _ => [treeO t p root, pagerO d p S, F]) (fun y => y.2.1) (root, dep, r, l) ⟨hT, hs, hV, hB⟩ ?_
  rintro ⟨rt, d1, r1, m⟩ ⟨hI, hms, hmV, hmB⟩
  dsimp only at hI hms hmV hmB ⊢
  refine do_seq ?_
  refine sr ?_
  refine rr (rd_move rfl) ?_
  refine rr (rd_ge rfl rfl) ?_
  refine nx ?_
  first | refine do_condp rfl (fun h18 => ?_) (fun h18 => ?_) | refine do_cond rfl (fun h18 => ?_) (fun h18 => ?_)
  · obtain ⟨i, rfl, hTi⟩ : ∃ i : Nat, rt = i ∧ IsT S d1 r1 i m := by
      rcases hI with ⟨h, _⟩ | h
      · omega
      · exact h
    obtain ⟨leaf, l0, hN, hlf⟩ : ∃ leaf l0, IsN S i leaf l0 ∧ ((leaf = true ∧ l0 = m.map lfI) ∨ (leaf = false ∧ ∃ d2 K, d1 = d2 + 1 ∧ l0 = K.map mdI ∧ (∀ x ∈ K, ∃ r', IsT S d2 r' x.1 x.2) ∧ m = kvs K)) := by
      cases d1 with
      | zero => exact ⟨true, _, hTi.2, .inl ⟨rfl, rfl⟩⟩
      | succ d2 => obtain ⟨K, q1, q2, q3, q4⟩ := hTi; exact ⟨false, _, q2, .inr ⟨rfl, d2, K, rfl, rfl, q3, q4⟩⟩
    have hl64 := hN.nd.len
    have hsr : Srt l0 := by
      rcases hlf with ⟨_, rfl⟩ | ⟨_, d2, K, _, rfl, hK, rfl⟩
      · exact hms.it
      · exact kv_heads hms (fun x hx => by obtain ⟨r', h⟩ := hK x hx; exact h.ne)
    obtain ⟨j, hj⟩ : ∃ j, belowF l0 key = j := ⟨_, rfl⟩
    have hjl : j < l0.length := by rw [← hj]; exact belowF_lt hN.nd.ne
    refine do_skip ?_
    refine St.then_n ?_
    refine do_block ?_
    refine sr ?_
    refine rr (rd_move rfl) ?_
    refine rr (rd_move rfl) ?_
    refine rc (hs := read_spec _ t p d i k root S hS.1 leaf l0 hN) (k := ?_)
    rintro ⟨⟨A5, c5⟩, L5, X5⟩ ⟨hL5, hX5⟩
    dsimp only at hL5 hX5 ⊢
    have hn5 : L5.length = l0.length := by rw [← hL5, List.length_map]
    try simp only [List.cons_append, List.nil_append]
    refine rr (rd_move rfl) ?_
    refine rr (rd_extract rfl rfl) ?_
    refine rr (rd_extract rfl rfl) ?_
    refine r_al zero105 fun b8 => ?_
    first | refine r_sa row105 ?_ | refine r_sm row105 ?_
    refine rr (rd_assign rfl) ?_
    refine run_nil ?_
    refine St.kp [(0, _), (1, _), (8, _), (9, _)] ?_
    refine St.then_n ?_
    refine do_seq ?_
    refine sr ?_
    refine rr (rd_move rfl) ?_
    refine rr ((rd_ne rfl rfl).eq (show _ = Value.bool false by simp)) ?_
    refine nx ?_
    refine do_cond_f rfl ?_
    refine do_skip ?_
    refine St.then_n ?_
    refine do_seq ?_
    refine St.sl (P := ownI (.slice A5 l0.length c5) l0.length L5) (St.Q_some (by omega) (fun g5 c6 hg5 _ _ => ?_))
    simp only [Value.slice.injEq] at hg5
    obtain ⟨rfl, -, rfl⟩ := hg5
    have hxL := List.getElem?_eq_getElem (l := L5) (i := j) (by omega)
    have hxm := List.mem_of_getElem? hxL
    generalize L5[j]'_ = xm at hxL hxm
    have hxl := ps_at hxL
    rw [hL5] at hxl
    have hxv := hX5 xm hxm
    obtain ⟨xk, xA, xc, xb, xd⟩ := xm
    dsimp only at hxv
    refine do_cut (fun _ : Nat => True) (fun g => [(0, .pointer (some ⟨t, 0, none⟩)), (1, .string (strOf key)), (8, .pointer (some ⟨b8, 0, none⟩)), (10, .pointer (some ⟨g, 0, none⟩))]) (fun g => [pts g 69 [.string (strOf xk), .slice xA xb.length xc, .int .i64 xd], pts b8 105 [.bool leaf, .slice (some ⟨g5, 0, none⟩) l0.length c5], X5, treeO t p root, pagerO d p S, F]) (fun K hK => ?_) ?_
    · skip
      · refine do_draw [[1, 5, 6, 8], [5, 6, 8], [4, 5, 6, 8], [4, 5, 6, 8], [5, 6, 8], [6, 8], [8], [8], []] (by kernel_rfl) rfl ?_
        refine ta 0 rfl (rd_fa rfl fld105_1) ?_
        refine ta 1 rfl (rd_ld rfl row67) ?_
        refine ta 2 rfl (rd_ldr [_, _] rfl row105) ?_
        refine ta 3 rfl (rd_move rfl) ?_
        refine any_run2 (i := 4) (j := 7) (by kernel_rfl) rfl rfl ?_ ?_
        · refine rc (hs := below_spec _ leaf (some ⟨g5, 0, none⟩) l0.length c5 L5 key (Vw.sep (vw_Q (f := imC)) (by repeat (first | with_reducible exact Sel.head | apply Sel.tail))) hn5 (by omega) (by rw [hL5]; exact hsr)) (k := ?_)
          rintro ⟨⟩ -
          rw [hL5, hj]
          try simp only [List.cons_append, List.nil_append]
          refine nx ?_
          refine any_next (by apply bd 3; apply bd 2; apply bk 1 rfl (rd_ld rfl row67); apply bk 0 rfl (rd_fa rfl fld105_1); exact .nil) ?_
          refine ta 5 rfl ((rd_indexAddr Try.underlying67 ei69 rfl rfl (by omega) (by omega)).eq (show _ = Value.pointer (some ⟨g5, 0 + j * 3, none⟩) by simp)) ?_
          refine ta 6 rfl (rd_ldr _ rfl row69 (show CellsIn _ _ _ _ [.string (strOf xk), .slice xA xb.length xc, .int .i64 xd] from cells_Q (n := l0.length) (c := c5) (T := 69) (L := L5) imC_len hxL)) ?_
          refine tr 7 ?_
          refine r_al zero69 fun b10 => ?_
          refine nx ?_
          refine any_next (by apply bk 6 rfl (rd_ldr _ rfl row69 (show CellsIn _ _ _ _ [.string (strOf xk), .slice xA xb.length xc, .int .i64 xd] from cells_Q (n := l0.length) (c := c5) (T := 69) (L := L5) imC_len hxL)); apply bk 5 rfl ((rd_indexAddr Try.underlying67 ei69 rfl rfl (by omega) (by omega)).eq (show _ = Value.pointer (some ⟨g5, 0 + j * 3, none⟩) by simp)); apply bk 1 rfl (rd_ld rfl row67); apply bk 0 rfl (rd_fa rfl fld105_1); exact .nil) ?_
          refine tr 8 ?_
          first | refine r_sa row69 ?_ | refine r_sm row69 ?_
          refine nx ?_
          refine any_next (by apply bd 6; apply bd 5; apply bd 1; apply bd 0; exact .nil) ?_
          refine any_nil (by kernel_rfl) ?_
          refine St.then_n ?_
          exact St.sb (St.kq [(0, _), (1, _), (8, _), (10, _)] (h := hK b10 trivial))
        rotate_left
        refine r_al zero69 fun b10 => ?_
        refine nx ?_
        refine any_next (by apply bk 3 rfl (rd_move rfl); apply bk 2 rfl (rd_ldr [_, _] rfl row105); apply bk 1 rfl (rd_ld rfl row67); apply bk 0 rfl (rd_fa rfl fld105_1); exact .nil) ?_
        refine tr 4 ?_
        refine rc (hs := below_spec _ leaf (some ⟨g5, 0, none⟩) l0.length c5 L5 key (Vw.sep (vw_Q (f := imC)) (by repeat (first | with_reducible exact Sel.head | apply Sel.tail))) hn5 (by omega) (by rw [hL5]; exact hsr)) (k := ?_)
        rintro ⟨⟩ -
        rw [hL5, hj]
        try simp only [List.cons_append, List.nil_append]
        refine nx ?_
        refine any_next (by apply bd 3; apply bd 2; apply bk 1 rfl (rd_ld rfl row67); apply bk 0 rfl (rd_fa rfl fld105_1); exact .nil) ?_
        refine ta 5 rfl ((rd_indexAddr Try.underlying67 ei69 rfl rfl (by omega) (by omega)).eq (show _ = Value.pointer (some ⟨g5, 0 + j * 3, none⟩) by simp)) ?_
        refine ta 6 rfl (rd_ldr _ rfl row69 (show CellsIn _ _ _ _ [.string (strOf xk), .slice xA xb.length xc, .int .i64 xd] from cells_Q (n := l0.length) (c := c5) (T := 69) (L := L5) imC_len hxL)) ?_
        refine tr 8 ?_
        first | refine r_sa row69 ?_ | refine r_sm row69 ?_
        refine nx ?_
        refine any_next (by apply bd 6; apply bd 5; apply bd 1; apply bd 0; exact .nil) ?_
        refine any_nil (by kernel_rfl) ?_
        refine St.then_n ?_
        exact St.sb (St.kq [(0, _), (1, _), (8, _), (10, _)] (h := hK b10 trivial))
    rintro b10 -
    refine do_seq ?_
    refine sr ?_
    refine rr (rd_fa rfl fld105_0) ?_
    refine rr (rd_ld rfl row4) ?_
    refine nx ?_
    first | refine do_condp rfl (fun h36 => ?_) (fun h36 => ?_) | refine do_cond rfl (fun h36 => ?_) (fun h36 => ?_)
    · subst h36
      obtain rfl : l0 = m.map lfI := by
        rcases hlf with ⟨_, h⟩ | ⟨h, _⟩
        · exact h
        · cases h
      obtain ⟨xq, hxq⟩ : ∃ xq, m[j]? = some xq := ⟨_, List.getElem?_eq_getElem (by rw [List.length_map] at hjl; exact hjl)⟩
      rw [List.getElem?_map, hxq] at hxl
      have hxe : lfI xq = ⟨xk, xb, xd⟩ := Option.some.inj hxl
      obtain ⟨h1, h2⟩ := below_fnd hms (key := key) (x := xq) (by rw [hj]; exact hxq)
      rw [hmB] at h1 h2
      have hk1 : xq.1 = xk := congrArg It.k hxe
      have hb1 : xq.2 = xb := congrArg It.b hxe
      rw [hk1] at h1
      rw [hb1, hmV] at h2
      refine do_seq ?_
      refine sr ?_
      refine rr (rd_fa rfl fld69_0) ?_
      refine rr (rd_ld rfl row9) ?_
      refine rr (rd_move rfl) ?_
      refine rr (rd_str_neq rfl rfl) ?_
      refine run_nil ?_
      refine St.kp [(10, _), (40, _)] ?_
      refine St.then_n ?_
      first | refine do_condp rfl (fun h40 => ?_) (fun h40 => ?_) | refine do_cond rfl (fun h40 => ?_) (fun h40 => ?_)
      · have hBf : B = false := by cases B; rfl; exact absurd (h1.2 rfl) h40
        refine sr ?_
        refine rr (rd_assign rfl) ?_
        refine rr (rd_assign rfl) ?_
        refine rr (rd_assign rfl) ?_
        refine nx ?_
        refine do_ret ?_
        refine St.then_r ?_
        refine St.then_r ?_
        refine St.blk_r ?_
        refine St.then_r ?_
        refine St.blk_r ?_
        refine St.then_r ?_
        refine do_ret3 Try.results40 (res_tmp rfl) (res_tmp rfl) (res_tmp rfl) ?_
        intro w hw
        rw [hVB hBf, hBf]
        exact ⟨(none, 0), trivial, rfl, Holds.own_nil hw.sb⟩
      · have hBt : B = true := h1.1 (by simpa using h40)
        have hVx := h2 hBt
        subst hVx
        refine do_skip ?_
        refine St.then_n ?_
        refine sr ?_
        refine rr (rd_fa rfl fld69_1) ?_
        refine rr (rd_ld rfl row44) ?_
        refine rc (hs := cloneB_spec _ _ V (Vw.sep hxv (by repeat (first | with_reducible exact Sel.head | apply Sel.tail))) (by have := (hI.ok xq (List.mem_of_getElem? hxq)).b80; rw [hb1] at this; omega)) (k := ?_)
        rintro v1 -
        refine St.vw vw_bytes .head (fun A1 c1 hv _ _ _ => ?_)
        subst hv
        try simp only [List.cons_append, List.nil_append]
        refine rr (rd_assign rfl) ?_
        refine rr (rd_assign rfl) ?_
        refine rr (rd_assign rfl) ?_
        refine run_nil ?_
        refine St.kp [(4, _), (5, _), (6, _)] ?_
        refine St.then_n ?_
        refine do_ret ?_
        refine St.then_r ?_
        refine St.blk_r ?_
        refine St.then_r ?_
        refine St.blk_r ?_
        refine St.then_r ?_
        refine do_ret3 Try.results40 (res_tmp rfl) (res_tmp rfl) (res_tmp rfl) ?_
        intro w hw
        exact ⟨(A1, c1), trivial, by rw [hBt], hw.sb⟩
    · subst h36
      obtain ⟨d2, K, rfl, rfl, hK, rfl⟩ : ∃ d2 K, d1 = d2 + 1 ∧ l0 = K.map mdI ∧ (∀ x ∈ K, ∃ r', IsT S d2 r' x.1 x.2) ∧ m = kvs K := by
        rcases hlf with ⟨h, _⟩ | ⟨_, h⟩
        · cases h
        · exact h
      obtain ⟨xq, hxq⟩ : ∃ xq, K[j]? = some xq := ⟨_, List.getElem?_eq_getElem (by rw [List.length_map] at hjl; exact hjl)⟩
      rw [List.getElem?_map, hxq] at hxl
      have hxe : mdI xq = ⟨xk, xb, xd⟩ := Option.some.inj hxl
      have hd1 : xq.1 = xd := congrArg It.c hxe
      subst hd1
      obtain ⟨h1, h2, h3⟩ := kid_loc hms hK (key := key) (x := xq) (by rw [hj]; exact hxq)
      obtain ⟨r2, hx2⟩ := hK xq (List.mem_of_getElem? hxq)
      refine do_skip ?_
      refine St.then_n ?_
      refine do_region ?_
      refine rr (rd_fa rfl fld69_2) ?_
      refine rr (rd_ld rfl row3) ?_
      refine rr (rd_assign rfl) ?_
      refine run_nil ?_
      refine St.kp [(0, _), (1, _), (7, _)] ?_
      refine St.blk_n ?_
      refine St.then_n ?_
      exact loop_bk ((xq.1 : Int), d2, r2, xq.2) ⟨.inr ⟨xq.1, rfl, hx2⟩, h1, h2.symm.trans hmV, h3.symm.trans hmB⟩ (hμ := by dsimp only; omega)
  · obtain rfl : m = [] := by
      rcases hI with ⟨_, h, _⟩ | ⟨i, h, _⟩
      · exact h
      · omega
    have hBf : B = false := by rw [← hmB]; rfl
    refine do_exit ?_
    refine St.then_x ?_
    refine St.then_x ?_
    refine St.blk_s ?_
    refine St.then_n ?_
    refine sr ?_
    refine rr (rd_assign rfl) ?_
    refine rr (rd_assign rfl) ?_
    refine rr (rd_assign rfl) ?_
    refine run_nil ?_
    refine St.kp [(4, _), (5, _), (6, _)] ?_
    refine St.then_n ?_
    refine do_ret ?_
    refine do_ret3 Try.results40 (res_tmp rfl) (res_tmp rfl) (res_tmp rfl) ?_
    intro w hw
    rw [hVB hBf, hBf]
    exact ⟨(none, 0), trivial, rfl, Holds.own_nil hw.sb⟩
theorem btDel0_spec (F : HP) (t p d k : Nat) (root : Int) (S : PS) (hS : S.good k) (dep r : Nat) (l : List KV) (hT : IsR S dep r root l) (hs : KSrt l) (key : List UInt8) (hf : fndK l key = false) :
    Spec Try.prog 22 [.pointer (some ⟨t, 0, none⟩), .string (strOf key)] [treeO t p root, pagerO d p S] F (fun _ : Unit => True) (fun _ => .tuple #[.bool false, .int .i64 0]) (fun _ => [treeO t p root, pagerO d p S]) := by
  intro ω w hh
  refine enter Try.func22 rfl Try.ntmps22 rfl hh ?_
  simp only [List.cons_append, List.nil_append, argsB]
  refine sr ?_
  refine r_b1 fun b3 => ?_
  refine rr (rd_assign rfl) ?_
  refine rr (rd_assign rfl) ?_
  refine nx ?_
  refine do_seq ?_
  refine sr ?_
  refine rr (rd_move rfl) ?_
  refine rr (rd_ptr_eq_nil Try.underlying29 rfl rfl) ?_
  refine run_nil ?_
  refine St.kp [(0, _), (3, _), (10, _)] ?_
  refine St.then_n ?_
  refine do_cond_f rfl ?_
  refine do_skip ?_
  refine St.then_n ?_
  refine sr ?_
  refine rr (rd_move rfl) ?_
  refine rr (rd_ld rfl row9) ?_
  refine rc (hs := btGet_spec _ t p d k root S hS dep r l hT hs key) (k := ?_)
  rintro ⟨A1, c1⟩ -
  rw [hf]
  try simp only [List.cons_append, List.nil_append]
  refine rr (rd_move rfl) ?_
  refine rr (rd_extract rfl rfl) ?_
  refine rr (rd_extract rfl rfl) ?_
  refine rr (rd_extract rfl rfl) ?_
  refine rr (rd_assign rfl) ?_
  refine rr (rd_assign rfl) ?_
  refine rr (rd_assign rfl) ?_
  refine run_nil ?_
  refine St.kp [(0, _), (3, _), (7, _), (8, _)] ?_
  refine St.then_n ?_
  refine do_seq ?_
  refine sr ?_
  refine rr (rd_move rfl) ?_
  refine rr ((rd_ne rfl rfl).eq (show _ = Value.bool false by simp)) ?_
  refine rr (rd_move rfl) ?_
  first | refine sk ?_ | (refine rr (rd_move rfl) ?_)
  first | refine sk ?_ | (refine rr (rd_not rfl) ?_)
  refine rr (rd_pick rfl rfl) ?_
  refine run_nil ?_
  refine St.kp [(0, _), (3, _), (8, _), (23, _)] ?_
  refine St.then_n ?_
  refine do_cond_t rfl ?_
  refine sr ?_
  refine rr (rd_move rfl) ?_
  refine rr (rd_assign rfl) ?_
  refine rr (rd_assign rfl) ?_
  refine run_nil ?_
  refine St.kp [(4, _), (5, _)] ?_
  refine St.then_n ?_
  refine do_ret ?_
  refine St.then_r ?_
  refine do_ret2 Try.results22 (res_tmp rfl) (res_tmp rfl) ?_
  intro w hw
  exact ⟨(), trivial, rfl, hw.sb⟩
end Go.Proofs.Ytgeldfgcicjidaa
