/-
  The law BtreeParts.
-/
import Derived.Test.YtgeldfgcicjidaaT20
namespace Go.Proofs.Ytgeldfgcicjidaa
open Go.RowKit
set_option linter.unusedSimpArgs false
set_option linter.unusedVariables false

set_option maxHeartbeats 4000000 in
theorem part_spec (F : HP) (r : Nat) (A : Option Addr) (n c : Nat) (L : List Pm) (hV : Vw F (.slice A n c) 3 n (L.flatMap prC)) (hn : L.length = n) (hl : n ≤ 4096) (fr to : List UInt8) :
    Spec Try.prog 12 [.pointer (some ⟨r, 0, none⟩), .string (strOf fr), .string (strOf to)] [pts r 35 [.slice A n c]] F (fun _ : Option Addr × Nat => True) (fun x => .slice x.1 (L.filter fun y => inR fr to y.kv).length x.2)
      (fun x => [ownP (.slice x.1 (L.filter fun y => inR fr to y.kv).length x.2) (L.filter fun y => inR fr to y.kv).length (L.filter fun y => inR fr to y.kv), pts r 35 [.slice A n c]]) := by
  intro ω w hh
  refine enter Try.func12 rfl Try.ntmps12 rfl hh ?_
  simp only [List.cons_append, List.nil_append, argsB]
  obtain ⟨f, hf⟩ : ∃ f : Pm → Bool, (fun y => inR fr to y.kv) = f := ⟨_, rfl⟩
  rw [hf]
  refine sr ?_
  refine rr (rd_assign rfl) ?_
  refine nx ?_
  refine sr ?_
  refine rr (rd_assign rfl) ?_
  refine nx ?_
  refine do_seq ?_
  refine sr ?_
  refine rr (rd_assign rfl) ?_
  refine nx ?_
  refine do_block ?_
  refine St.nilQ (f := prC) (T := 55) (k := 3) (St.ent (Q := ownP (.slice none ((L.take 0).filter f).length 0) ((L.take 0).filter f).length ((L.take 0).filter f)) (fun _ h => h) ?_)
  refine do_lp (fun y : Nat × Option Addr × Nat => y.1 ≤ n) (fun y => [(0, .pointer (some ⟨r, 0, none⟩)), (1, .string (strOf fr)), (2, .string (strOf to)), (7, .slice y.2.1 ((L.take y.1).filter f).length y.2.2), (8, .int .i64 y.1)]) (fun y => [ownP (.slice y.2.1 ((L.take y.1).filter f).length y.2.2) ((L.take y.1).filter f).length ((L.take y.1).filter f), pts r 35 [.slice A n c], F]) (fun y => n - y.1) (0, none, 0) (Nat.zero_le _) ?_
  rintro ⟨i, A1, c1⟩ hi
  dsimp only at hi ⊢
  refine do_seq ?_
  refine sr ?_
  refine rr (rd_move rfl) ?_
  refine rr (rd_move rfl) ?_
  refine rr (rd_nilCheck rfl) ?_
  refine rr (rd_fa rfl fld35_0) ?_
  refine rr (rd_ld rfl row22) ?_
  refine rr (rd_len Try.underlying22 rfl) ?_
  refine rr (rd_lt rfl rfl) ?_
  refine run_nil ?_
  refine St.kp [(0, _), (1, _), (2, _), (7, _), (8, _), (15, _)] ?_
  refine St.then_n ?_
  first | refine do_condp rfl (fun h15 => ?_) (fun h15 => ?_) | refine do_cond rfl (fun h15 => ?_) (fun h15 => ?_)
  · have hx := List.getElem?_eq_getElem (l := L) (i := i) (by omega)
    generalize L[i]'_ = x at hx
    have htk := take_get' hx
    obtain ⟨tF, htF⟩ : ∃ tF, decide (0 ≤ cmpB x.k fr) = tF := ⟨_, rfl⟩
    obtain ⟨tE, htE⟩ : ∃ tE, decide (to = []) = tE := ⟨_, rfl⟩
    have hfx : f x = (tF && (tE || decide (cmpB x.k to < 0))) := by rw [← hf, ← htF, ← htE]; rfl
    have hfl : ((L.take i).filter f).length ≤ i := Nat.le_trans (List.length_filter_le _ _) (List.length_take_le _ _)
    obtain ⟨xk, xA, xc, xb, xd⟩ := x
    dsimp only at hfx htF
    have h4 : tF = false ∨ (tF = true ∧ tE = true) ∨ (tF = true ∧ tE = false) := by cases tF <;> cases tE <;> simp
    refine St.vw_some hV (by repeat (first | with_reducible exact Sel.head | apply Sel.tail)) (by omega) (fun g of hg _ _ => ?_)
    subst hg
    refine do_skip ?_
    refine St.then_n ?_
    refine do_seq ?_
    refine do_block ?_
    refine do_seq ?_
    refine do_cut (fun _ : Unit => True) (fun _ => [(0, .pointer (some ⟨r, 0, none⟩)), (1, .string (strOf fr)), (2, .string (strOf to)), (7, .slice A1 ((L.take i).filter f).length c1), (8, .int .i64 i), (43, .bool (tF && (tE || decide (cmpB xk to < 0))))]) (fun _ => [ownP (.slice A1 ((L.take i).filter f).length c1) ((L.take i).filter f).length ((L.take i).filter f), pts r 35 [.slice (some ⟨g, of, none⟩) n c], F]) (fun K hK => ?_) ?_
    · rcases h4 with rfl | ⟨rfl, rfl⟩ | ⟨rfl, rfl⟩
      · refine do_region ?_
        refine rr (rd_move rfl) ?_
        refine rr (rd_nilCheck rfl) ?_
        refine rr (rd_fa rfl fld35_0) ?_
        refine rr (rd_ld rfl row22) ?_
        refine rr (rd_move rfl) ?_
        refine rr ((rd_indexAddr Try.underlying22 ei55 rfl rfl (by omega) (by omega)).eq (show _ = Value.pointer (some ⟨g, of + i * 3, none⟩) by simp)) ?_
        refine rr (rd_fa (off' := of + (i * 3 + 0)) rfl fld55_0 rfl) ?_
        refine rr (rd_ld rfl row9 (Vw.cells1 hV (by repeat (first | with_reducible exact Sel.head | apply Sel.tail)) (by omega) (flat_cell prC_len hx (j := 0) (by decide) rfl))) ?_
        refine rr (rd_move rfl) ?_
        refine rr ((rd_str_geq rfl rfl).eq (congrArg Value.bool htF)) ?_
        refine rr (rd_move rfl) ?_
        first | refine sk ?_ | (refine rr (rd_move rfl) ?_)
        first | refine sk ?_ | (refine rr ((rd_str_eql (b := []) rfl rfl).eq (congrArg Value.bool htE)) ?_)
        first | refine sk ?_ | (refine rr (rd_move rfl) ?_)
        first | refine sk ?_ | (refine rr (rd_move rfl) ?_)
        first | refine sk ?_ | (refine rr (rd_nilCheck rfl) ?_)
        first | refine sk ?_ | (refine rr (rd_fa rfl fld35_0) ?_)
        first | refine sk ?_ | (refine rr (rd_ld rfl row22) ?_)
        first | refine sk ?_ | (refine rr (rd_move rfl) ?_)
        first | refine sk ?_ | (refine rr ((rd_indexAddr Try.underlying22 ei55 rfl rfl (by omega) (by omega)).eq (show _ = Value.pointer (some ⟨g, of + i * 3, none⟩) by simp)) ?_)
        first | refine sk ?_ | (refine rr (rd_fa (off' := of + (i * 3 + 0)) rfl fld55_0 rfl) ?_)
        first | refine sk ?_ | (refine rr (rd_ld rfl row9 (Vw.cells1 hV (by repeat (first | with_reducible exact Sel.head | apply Sel.tail)) (by omega) (flat_cell prC_len hx (j := 0) (by decide) rfl))) ?_)
        first | refine sk ?_ | (refine rr (rd_move rfl) ?_)
        first | refine sk ?_ | (refine rr (rd_str_lss rfl rfl) ?_)
        first | refine sk ?_ | (refine rr (rd_pick rfl rfl) ?_)
        refine rr (rd_pick rfl rfl) ?_
        refine run_nil ?_
        refine St.kp [(0, _), (1, _), (2, _), (7, _), (8, _), (29, _), (30, _), (31, _), (32, _), (33, _), (34, _), (35, _), (36, _), (37, _), (38, _), (39, _), (40, _), (41, _), (42, _), (43, _)] ?_
        refine St.then_n ?_
        exact St.sb (St.kq [(0, _), (1, _), (2, _), (7, _), (8, _), (43, _)] (h := hK () trivial))
      · refine do_region ?_
        refine rr (rd_move rfl) ?_
        refine rr (rd_nilCheck rfl) ?_
        refine rr (rd_fa rfl fld35_0) ?_
        refine rr (rd_ld rfl row22) ?_
        refine rr (rd_move rfl) ?_
        refine rr ((rd_indexAddr Try.underlying22 ei55 rfl rfl (by omega) (by omega)).eq (show _ = Value.pointer (some ⟨g, of + i * 3, none⟩) by simp)) ?_
        refine rr (rd_fa (off' := of + (i * 3 + 0)) rfl fld55_0 rfl) ?_
        refine rr (rd_ld rfl row9 (Vw.cells1 hV (by repeat (first | with_reducible exact Sel.head | apply Sel.tail)) (by omega) (flat_cell prC_len hx (j := 0) (by decide) rfl))) ?_
        refine rr (rd_move rfl) ?_
        refine rr ((rd_str_geq rfl rfl).eq (congrArg Value.bool htF)) ?_
        refine rr (rd_move rfl) ?_
        first | refine sk ?_ | (refine rr (rd_move rfl) ?_)
        first | refine sk ?_ | (refine rr ((rd_str_eql (b := []) rfl rfl).eq (congrArg Value.bool htE)) ?_)
        first | refine sk ?_ | (refine rr (rd_move rfl) ?_)
        first | refine sk ?_ | (refine rr (rd_move rfl) ?_)
        first | refine sk ?_ | (refine rr (rd_nilCheck rfl) ?_)
        first | refine sk ?_ | (refine rr (rd_fa rfl fld35_0) ?_)
        first | refine sk ?_ | (refine rr (rd_ld rfl row22) ?_)
        first | refine sk ?_ | (refine rr (rd_move rfl) ?_)
        first | refine sk ?_ | (refine rr ((rd_indexAddr Try.underlying22 ei55 rfl rfl (by omega) (by omega)).eq (show _ = Value.pointer (some ⟨g, of + i * 3, none⟩) by simp)) ?_)
        first | refine sk ?_ | (refine rr (rd_fa (off' := of + (i * 3 + 0)) rfl fld55_0 rfl) ?_)
        first | refine sk ?_ | (refine rr (rd_ld rfl row9 (Vw.cells1 hV (by repeat (first | with_reducible exact Sel.head | apply Sel.tail)) (by omega) (flat_cell prC_len hx (j := 0) (by decide) rfl))) ?_)
        first | refine sk ?_ | (refine rr (rd_move rfl) ?_)
        first | refine sk ?_ | (refine rr (rd_str_lss rfl rfl) ?_)
        first | refine sk ?_ | (refine rr (rd_pick rfl rfl) ?_)
        refine rr (rd_pick rfl rfl) ?_
        refine run_nil ?_
        refine St.kp [(0, _), (1, _), (2, _), (7, _), (8, _), (29, _), (30, _), (31, _), (32, _), (33, _), (34, _), (35, _), (36, _), (37, _), (38, _), (39, _), (40, _), (41, _), (42, _), (43, _)] ?_
        refine St.then_n ?_
        exact St.sb (St.kq [(0, _), (1, _), (2, _), (7, _), (8, _), (43, _)] (h := hK () trivial))
      · refine do_region ?_
        refine rr (rd_move rfl) ?_
        refine rr (rd_nilCheck rfl) ?_
        refine rr (rd_fa rfl fld35_0) ?_
        refine rr (rd_ld rfl row22) ?_
        refine rr (rd_move rfl) ?_
        refine rr ((rd_indexAddr Try.underlying22 ei55 rfl rfl (by omega) (by omega)).eq (show _ = Value.pointer (some ⟨g, of + i * 3, none⟩) by simp)) ?_
        refine rr (rd_fa (off' := of + (i * 3 + 0)) rfl fld55_0 rfl) ?_
        refine rr (rd_ld rfl row9 (Vw.cells1 hV (by repeat (first | with_reducible exact Sel.head | apply Sel.tail)) (by omega) (flat_cell prC_len hx (j := 0) (by decide) rfl))) ?_
        refine rr (rd_move rfl) ?_
        refine rr ((rd_str_geq rfl rfl).eq (congrArg Value.bool htF)) ?_
        refine rr (rd_move rfl) ?_
        first | refine sk ?_ | (refine rr (rd_move rfl) ?_)
        first | refine sk ?_ | (refine rr ((rd_str_eql (b := []) rfl rfl).eq (congrArg Value.bool htE)) ?_)
        first | refine sk ?_ | (refine rr (rd_move rfl) ?_)
        first | refine sk ?_ | (refine rr (rd_move rfl) ?_)
        first | refine sk ?_ | (refine rr (rd_nilCheck rfl) ?_)
        first | refine sk ?_ | (refine rr (rd_fa rfl fld35_0) ?_)
        first | refine sk ?_ | (refine rr (rd_ld rfl row22) ?_)
        first | refine sk ?_ | (refine rr (rd_move rfl) ?_)
        first | refine sk ?_ | (refine rr ((rd_indexAddr Try.underlying22 ei55 rfl rfl (by omega) (by omega)).eq (show _ = Value.pointer (some ⟨g, of + i * 3, none⟩) by simp)) ?_)
        first | refine sk ?_ | (refine rr (rd_fa (off' := of + (i * 3 + 0)) rfl fld55_0 rfl) ?_)
        first | refine sk ?_ | (refine rr (rd_ld rfl row9 (Vw.cells1 hV (by repeat (first | with_reducible exact Sel.head | apply Sel.tail)) (by omega) (flat_cell prC_len hx (j := 0) (by decide) rfl))) ?_)
        first | refine sk ?_ | (refine rr (rd_move rfl) ?_)
        first | refine sk ?_ | (refine rr (rd_str_lss rfl rfl) ?_)
        first | refine sk ?_ | (refine rr (rd_pick rfl rfl) ?_)
        refine rr (rd_pick rfl rfl) ?_
        refine run_nil ?_
        refine St.kp [(0, _), (1, _), (2, _), (7, _), (8, _), (29, _), (30, _), (31, _), (32, _), (33, _), (34, _), (35, _), (36, _), (37, _), (38, _), (39, _), (40, _), (41, _), (42, _), (43, _)] ?_
        refine St.then_n ?_
        exact St.sb (St.kq [(0, _), (1, _), (2, _), (7, _), (8, _), (43, _)] (h := hK () trivial))
    rintro ⟨⟩ -
    rw [← hfx]
    first | refine do_condp rfl (fun h43 => ?_) (fun h43 => ?_) | refine do_cond rfl (fun h43 => ?_) (fun h43 => ?_)
    · have hnx : (L.take i).filter f ++ [⟨xk, xA, xc, xb, xd⟩] = (L.take (i + 1)).filter f := by rw [htk, List.filter_append, List.filter_cons, if_pos h43]; rfl
      have hnl : ((L.take i).filter f).length + 1 = ((L.take (i + 1)).filter f).length := by rw [← hnx, List.length_append]; rfl
      refine do_region ?_
      refine rr (rd_move rfl) ?_
      refine rr (rd_move rfl) ?_
      refine rr (rd_nilCheck rfl) ?_
      refine rr (rd_fa rfl fld35_0) ?_
      refine rr (rd_ld rfl row22) ?_
      refine rr (rd_move rfl) ?_
      refine rr ((rd_indexAddr Try.underlying22 ei55 rfl rfl (by omega) (by omega)).eq (show _ = Value.pointer (some ⟨g, of + i * 3, none⟩) by simp)) ?_
      refine rr (rd_ldr _ rfl row55 (Vw.cells (vs := [.string (strOf xk), .slice xA xb.length xc, .bool xd]) hV (by repeat (first | with_reducible exact Sel.head | apply Sel.tail)) (by omega) (flat_at prC_len hx))) ?_
      refine r_bs1 (f := prC) ⟨xk, xA, xc, xb, xd⟩ (prC_len _) Try.underlying22 ei55 (by decide) (fun b52 => ?_)
      refine r_apQ (f := prC) (L := (L.take i).filter f) (M := [⟨xk, xA, xc, xb, xd⟩]) (n := ((L.take i).filter f).length) prC_len prC_one Try.underlying22 ei55 (X := ownQ prC 55 3 (.slice (some ⟨b52, 0, none⟩) 1 1) 1 [⟨xk, xA, xc, xb, xd⟩]) vw_Q rfl (by omega) (by omega) (by omega) (fun v5 _ => ?_)
      rw [hnx, hnl]
      refine St.Q_sl fun A5 c5 hv5 _ _ _ => ?_
      subst hv5
      refine rr (rd_assign rfl) ?_
      refine run_nil ?_
      refine St.kp [(0, _), (1, _), (2, _), (7, _), (8, _)] ?_
      refine St.blk_n ?_
      refine St.then_n ?_
      refine do_region ?_
      refine rr (rd_move rfl) ?_
      refine rr (rd_addi rfl rfl) ?_
      refine rr (rd_assign rfl) ?_
      refine nx ?_
      first | exact loop_bk (i + 1, A5, c5) (by dsimp only; omega) (hμ := by dsimp only; omega) | exact loop_bk (i + 1, A1, c1) (by dsimp only; omega) (hμ := by dsimp only; omega)
    · have hnx : (L.take i).filter f = (L.take (i + 1)).filter f := by rw [htk, List.filter_append, List.filter_cons, if_neg (by simpa using h43)]; simp
      rw [hnx]
      refine do_skip ?_
      refine St.blk_n ?_
      refine St.then_n ?_
      refine do_region ?_
      refine rr (rd_move rfl) ?_
      refine rr (rd_addi rfl rfl) ?_
      refine rr (rd_assign rfl) ?_
      refine nx ?_
      first | exact loop_bk (i + 1, A5, c5) (by dsimp only; omega) (hμ := by dsimp only; omega) | exact loop_bk (i + 1, A1, c1) (by dsimp only; omega) (hμ := by dsimp only; omega)
  · obtain rfl : i = n := by omega
    rw [List.take_of_length_le (by omega)]
    refine do_exit ?_
    refine St.then_x ?_
    refine St.then_x ?_
    refine St.blk_s ?_
    refine St.then_n ?_
    refine sr ?_
    refine rr (rd_move rfl) ?_
    refine rr (rd_assign rfl) ?_
    refine run_nil ?_
    refine St.kp [(6, _)] ?_
    refine St.then_n ?_
    refine do_ret ?_
    refine do_ret1 Try.results12 (res_tmp rfl) ?_
    intro w hw
    exact ⟨(A1, c1), trivial, rfl, hw.sb⟩
theorem filter_kv (fr to : List UInt8) (L : List Pm) : (L.filter fun y => inR fr to y.kv).map Pm.kv = sel fr to (L.map Pm.kv) := by
  unfold sel
  rw [List.filter_map]
  rfl
theorem sel_meet {fr mid to : List UInt8} (h1 : mid ≠ []) (h2 : ¬ cmpB mid fr < 0) (h3 : to ≠ [] → ¬ cmpB to mid < 0) : ∀ {m : List KV}, KSrt m → sel fr mid m ++ sel mid to m = sel fr to m
  | [], _ => rfl
  | x :: m, hs => by
    have ih := sel_meet h1 h2 h3 (List.Pairwise.of_cons hs)
    by_cases hx : 0 ≤ cmpB x.1 mid
    · have hge := ge_head hs mid hx
      have e1 : sel fr mid (x :: m) = [] := sel_hi h1 hge
      rw [e1, List.nil_append]
      refine List.filter_congr fun y hy => ?_
      have hy1 := hge y hy
      have hy2 : 0 ≤ cmpB y.1 fr := by
        by_cases h : 0 ≤ cmpB y.1 fr
        · exact h
        · have h4 : cmpB y.1 fr < 0 := by omega
          by_cases h0 : cmpB mid fr = 0
          · have := cmpB_eq _ _ h0; subst this; exact hy1
          · have h5 := cmpB_swap mid fr
            have := cmpB_trans y.1 fr mid h4 (by omega)
            omega
      simp [inR, hy1, hy2]
    · have hx1 : cmpB x.1 mid < 0 := by omega
      have e2 : inR mid to x = false := by simp [inR]; intro h; omega
      have e3 : inR fr mid x = inR fr to x := by
        have h5 : to = [] ∨ cmpB x.1 to < 0 := by
          by_cases h : to = []
          · exact .inl h
          · right
            have h6 := h3 h
            by_cases h0 : cmpB to mid = 0
            · have := cmpB_eq _ _ h0; subst this; exact hx1
            · have h7 := cmpB_swap to mid
              exact cmpB_trans x.1 mid to hx1 (by omega)
        simp only [inR, h1, decide_false, Bool.false_or, hx1, decide_true, Bool.and_true]
        rcases h5 with h5 | h5
        · simp [h5]
        · simp [h5]
      rw [sel, sel, sel, List.filter_cons, List.filter_cons, List.filter_cons, e2, e3]
      by_cases hp : inR fr to x = true
      · rw [if_pos hp, if_pos hp, if_neg (by decide)]
        exact congrArg (x :: ·) ih
      · rw [if_neg hp, if_neg hp, if_neg (by decide)]
        exact ih
theorem q_eq {L M : List Pm} (h : L.map Pm.kv = M.map Pm.kv) (h1 : ∀ x ∈ L, x.del = false) (h2 : ∀ x ∈ M, x.del = false) : L.map Pm.q = M.map Pm.q := by
  rw [q_of rfl h1, q_of h.symm h2]
theorem fm {f : Pm → Bool} {L : List Pm} {p : Pm → Prop} (h : ∀ x ∈ L, p x) : ∀ x ∈ L.filter f, p x := fun x hx => h x (List.mem_filter.1 hx).1
set_option maxHeartbeats 8000000 in
theorem btreeParts_law (w : World) (A : Option Addr) (n c : Nat) (L : List Pm) (hV : Vw (kept w) (.slice A n c) 3 n (L.flatMap prC)) (hX : ∀ x ∈ L, VwB (kept w) x.v x.b) (hn : L.length = n) (fr mid to : List UInt8) :
    Calls Try.prog 3 #[.slice A n c, .string (strOf fr), .string (strOf mid), .string (strOf to)] w fun e w' => e = .returned (.bool true) ∧ Fr nowhere w w' := by
  refine enter (vs := [.slice A n c, .string (strOf fr), .string (strOf mid), .string (strOf to)]) Try.func3 rfl Try.ntmps3 rfl (Holds.init w) ?_
  simp only [argsB]
  refine sr ?_
  refine rr (rd_assign rfl) ?_
  refine nx ?_
  refine do_seq ?_
  refine do_seq ?_
  obtain ⟨rB, hrb⟩ : ∃ rB, riseB L = rB := ⟨_, rfl⟩
  refine do_cut (fun _ : Unit => True) (fun _ => [(0, .slice A n c), (1, .string (strOf fr)), (2, .string (strOf mid)), (3, .string (strOf to)), (21, .bool (!rB || decide ((60 : Int) < n)))]) (fun _ => [kept w]) (fun K hK => ?_) ?_
  · cases rB
    · refine do_region ?_
      refine rr (rd_move rfl) ?_
      refine rc (hs := rising_spec _ A n c L (Vw.sep hV (by repeat (first | with_reducible exact Sel.head | apply Sel.tail))) hn) (k := ?_)
      rintro ⟨⟩ -
      rw [hrb]
      try simp only [List.cons_append, List.nil_append]
      refine rr (rd_not rfl) ?_
      refine rr (rd_move rfl) ?_
      first | refine sk ?_ | (refine rr (rd_move rfl) ?_)
      first | refine sk ?_ | (refine rr (rd_len Try.underlying22 rfl) ?_)
      first | refine sk ?_ | (refine rr (rd_gt rfl rfl) ?_)
      refine rr (rd_pick rfl rfl) ?_
      refine run_nil ?_
      refine St.kp [(0, _), (1, _), (2, _), (3, _), (21, _)] ?_
      refine St.then_n ?_
      exact St.sb (St.kq [(0, _), (1, _), (2, _), (3, _), (21, _)] (h := hK () trivial))
    · refine do_region ?_
      refine rr (rd_move rfl) ?_
      refine rc (hs := rising_spec _ A n c L (Vw.sep hV (by repeat (first | with_reducible exact Sel.head | apply Sel.tail))) hn) (k := ?_)
      rintro ⟨⟩ -
      rw [hrb]
      try simp only [List.cons_append, List.nil_append]
      refine rr (rd_not rfl) ?_
      refine rr (rd_move rfl) ?_
      first | refine sk ?_ | (refine rr (rd_move rfl) ?_)
      first | refine sk ?_ | (refine rr (rd_len Try.underlying22 rfl) ?_)
      first | refine sk ?_ | (refine rr (rd_gt rfl rfl) ?_)
      refine rr (rd_pick rfl rfl) ?_
      refine run_nil ?_
      refine St.kp [(0, _), (1, _), (2, _), (3, _), (21, _)] ?_
      refine St.then_n ?_
      exact St.sb (St.kq [(0, _), (1, _), (2, _), (3, _), (21, _)] (h := hK () trivial))
  rintro ⟨⟩ -
  first | refine do_condp rfl (fun h21 => ?_) (fun h21 => ?_) | refine do_cond rfl (fun h21 => ?_) (fun h21 => ?_)
  · refine sr ?_
    refine rc (hs := known_spec _) (k := ?_)
    rintro ⟨⟩ -
    try simp only [List.cons_append, List.nil_append]
    refine rr (rd_assign rfl) ?_
    refine run_nil ?_
    refine St.kp [(8, _)] ?_
    refine St.then_n ?_
    refine do_ret ?_
    refine St.then_r ?_
    refine do_ret1 Try.results3 (res_tmp rfl) ?_
    intro w hw
    exact ⟨rfl, hw.to_fr (by repeat (first | with_reducible exact Sel.head | apply Sel.tail))⟩
  · have h22 : rB = true ∧ n ≤ 60 := by
      cases rB
      · simp at h21
      · simp at h21; exact ⟨rfl, by omega⟩
    have hR := riseB_t.1 (hrb.trans h22.1)
    have hn60 := h22.2
    refine do_skip ?_
    refine St.then_n ?_
    refine sr ?_
    refine rc (hs := pages_spec _ 120 (by decide) (by decide)) (k := ?_)
    rintro ⟨d, p⟩ -
    try simp only [List.cons_append, List.nil_append]
    refine rr (rd_move rfl) ?_
    refine rr (rd_extract rfl rfl) ?_
    refine rr (rd_extract rfl rfl) ?_
    refine rr (rd_assign rfl) ?_
    refine rr (rd_assign rfl) ?_
    refine run_nil ?_
    refine St.kp [(0, _), (1, _), (2, _), (3, _), (10, _)] ?_
    refine St.then_n ?_
    refine do_seq ?_
    refine sr ?_
    refine rr (rd_move rfl) ?_
    refine rr (rd_ptr_eq_nil Try.underlying26 rfl rfl) ?_
    refine nx ?_
    refine do_cond_f rfl ?_
    refine do_skip ?_
    refine St.then_n ?_
    refine sr ?_
    refine rr (rd_move rfl) ?_
    refine rr (rd_move rfl) ?_
    refine rc (hs := load_spec _ p d 122 (pg0 120) (pg0_good (by decide)) A n c L (Vw.sep hV (by repeat (first | with_reducible exact Sel.head | apply Sel.tail))) (fun x hx => Vw.sep (hX x hx) (by repeat (first | with_reducible exact Sel.head | apply Sel.tail))) hn hR (by omega) (by rw [pg0_fre _ (by decide)]; omega)) (k := ?_)
    rintro ⟨t, S1, rt⟩ hLd
    dsimp only at hLd ⊢
    have hg1 := hLd.ext.good (pg0_good (by decide))
    obtain ⟨dep, r, hT, -⟩ := hLd.tree
    have hms := hR.srt
    have hml : (L.map Pm.kv).length = n := by rw [List.length_map, hn]
    have hsl : ∀ f g, (sel f g (L.map Pm.kv)).length ≤ 1000000 := fun f g => Nat.le_trans (List.length_filter_le _ _) (by omega)
    try simp only [List.cons_append, List.nil_append]
    refine rr (rd_move rfl) ?_
    refine rr (rd_extract rfl rfl) ?_
    refine rr (rd_extract rfl rfl) ?_
    refine rr (rd_assign rfl) ?_
    refine rr (rd_assign rfl) ?_
    refine run_nil ?_
    refine St.kp [(0, _), (1, _), (2, _), (3, _), (11, _), (12, _)] ?_
    refine St.then_n ?_
    refine do_seq ?_
    refine sr ?_
    refine rr (rd_move rfl) ?_
    refine rr ((rd_ne rfl rfl).eq (show _ = Value.bool false from rfl)) ?_
    refine rr (rd_move rfl) ?_
    first | refine sk ?_ | (refine rr (rd_move rfl) ?_)
    first | refine sk ?_ | (refine rr (rd_ptr_eq_nil Try.underlying29 rfl rfl) ?_)
    refine rr (rd_pick rfl rfl) ?_
    refine run_nil ?_
    refine St.kp [(0, _), (1, _), (2, _), (3, _), (11, _), (40, _)] ?_
    refine St.then_n ?_
    refine do_cond_f rfl ?_
    refine do_skip ?_
    refine St.then_n ?_
    refine sr ?_
    refine rr (rd_move rfl) ?_
    refine rr (rd_bd [_] zero35 plc35) ?_
    refine r_bx fun b43 => ?_
    refine rr (rd_assign rfl) ?_
    refine run_nil ?_
    refine St.kp [(1, _), (2, _), (3, _), (11, _), (13, _)] ?_
    refine St.then_n ?_
    refine do_seq ?_
    refine sr ?_
    refine rr (rd_move rfl) ?_
    refine rr (rd_move rfl) ?_
    refine rr (rd_move rfl) ?_
    refine rc (hs := all_spec _ t p d 122 rt S1 hg1 dep r (L.map Pm.kv) hT hms fr to (hsl _ _)) (k := ?_)
    rintro ⟨⟨A4, c4⟩, L4⟩ ⟨hL4, hd4⟩
    dsimp only at hL4 hd4 ⊢
    rw [← filter_kv] at hL4
    try simp only [List.cons_append, List.nil_append]
    refine rr (rd_move rfl) ?_
    refine rr (rd_move rfl) ?_
    refine rr (rd_move rfl) ?_
    refine rc (hs := part_spec _ b43 A n c L (Vw.sep hV (by repeat (first | with_reducible exact Sel.head | apply Sel.tail))) hn (by omega) fr to) (k := ?_)
    rintro ⟨A5, c5⟩ -
    dsimp only
    have hl4 : L4.length = (L.filter fun y => inR fr to y.kv).length := by have := congrArg List.length hL4; rwa [List.length_map, List.length_map] at this
    rw [hl4]
    try simp only [List.cons_append, List.nil_append]
    refine rc (hs := sameP_spec _ A4 A5 (L.filter fun y => inR fr to y.kv).length c4 c5 L4 (L.filter fun y => inR fr to y.kv) (Vw.sep (vw_Q (f := prC)) (by repeat (first | with_reducible exact Sel.head | apply Sel.tail))) (fun x hx => Vw.sep (pr_vw hx) (by repeat (first | with_reducible exact Sel.head | apply Sel.tail))) (Vw.sep (X := ownP (.slice A5 _ c5) _ _) (vw_Q (f := prC)) (by repeat (first | with_reducible exact Sel.head | apply Sel.tail))) (fun x hx => Vw.sep (fm hX x hx) (by repeat (first | with_reducible exact Sel.head | apply Sel.tail))) hl4 (q_eq hL4 hd4 (fm hR.del))) (k := ?_)
    rintro ⟨⟩ -
    try simp only [List.cons_append, List.nil_append]
    refine rr (rd_not rfl) ?_
    refine run_nil ?_
    refine St.kp [(1, _), (2, _), (3, _), (11, _), (13, _), (53, _)] ?_
    refine St.then_n ?_
    refine do_cond_f rfl ?_
    refine do_skip ?_
    refine St.then_n ?_
    refine do_seq ?_
    refine do_seq ?_
    obtain ⟨tM, htM⟩ : ∃ tM, decide (mid = []) = tM := ⟨_, rfl⟩
    obtain ⟨tL, htL⟩ : ∃ tL, decide (cmpB mid fr < 0) = tL := ⟨_, rfl⟩
    obtain ⟨tT, htT⟩ : ∃ tT, decide (to ≠ []) = tT := ⟨_, rfl⟩
    have h4 : tM = true ∨ (tM = false ∧ tL = true) ∨ (tM = false ∧ tL = false ∧ tT = false) ∨ (tM = false ∧ tL = false ∧ tT = true) := by cases tM <;> cases tL <;> cases tT <;> simp
    refine do_cut (fun _ : Unit => True) (fun _ => [(1, .string (strOf fr)), (2, .string (strOf mid)), (3, .string (strOf to)), (11, .pointer (some ⟨t, 0, none⟩)), (13, .pointer (some ⟨b43, 0, none⟩)), (69, .bool (tM || tL || (tT && decide (cmpB to mid < 0))))]) (fun _ => [treeO t p rt, pagerO d p S1, pts b43 35 [.slice A n c], kept w]) (fun K hK => ?_) ?_
    · rcases h4 with rfl | ⟨rfl, rfl⟩ | ⟨rfl, rfl, rfl⟩ | ⟨rfl, rfl, rfl⟩
      · refine do_region ?_
        refine rr (rd_move rfl) ?_
        refine rr ((rd_str_eql (b := []) rfl rfl).eq (congrArg Value.bool htM)) ?_
        refine rr (rd_move rfl) ?_
        first | refine sk ?_ | (refine rr (rd_move rfl) ?_)
        first | refine sk ?_ | (refine rr (rd_move rfl) ?_)
        first | refine sk ?_ | (refine rr ((rd_str_lss rfl rfl).eq (congrArg Value.bool htL)) ?_)
        refine rr (rd_pick rfl rfl) ?_
        refine rr (rd_move rfl) ?_
        first | refine sk ?_ | (refine rr (rd_move rfl) ?_)
        first | refine sk ?_ | (refine rr ((rd_str_neq (b := []) rfl rfl).eq (congrArg Value.bool htT)) ?_)
        first | refine sk ?_ | (refine rr (rd_move rfl) ?_)
        first | refine sk ?_ | (refine rr (rd_move rfl) ?_)
        first | refine sk ?_ | (refine rr (rd_move rfl) ?_)
        first | refine sk ?_ | (refine rr (rd_str_lss rfl rfl) ?_)
        first | refine sk ?_ | (refine rr (rd_pick rfl rfl) ?_)
        refine rr (rd_pick rfl rfl) ?_
        refine run_nil ?_
        refine St.kp [(1, _), (2, _), (3, _), (11, _), (13, _), (69, _)] ?_
        refine St.then_n ?_
        exact St.sb (St.kq [(1, _), (2, _), (3, _), (11, _), (13, _), (69, _)] (h := hK () trivial))
      · refine do_region ?_
        refine rr (rd_move rfl) ?_
        refine rr ((rd_str_eql (b := []) rfl rfl).eq (congrArg Value.bool htM)) ?_
        refine rr (rd_move rfl) ?_
        first | refine sk ?_ | (refine rr (rd_move rfl) ?_)
        first | refine sk ?_ | (refine rr (rd_move rfl) ?_)
        first | refine sk ?_ | (refine rr ((rd_str_lss rfl rfl).eq (congrArg Value.bool htL)) ?_)
        refine rr (rd_pick rfl rfl) ?_
        refine rr (rd_move rfl) ?_
        first | refine sk ?_ | (refine rr (rd_move rfl) ?_)
        first | refine sk ?_ | (refine rr ((rd_str_neq (b := []) rfl rfl).eq (congrArg Value.bool htT)) ?_)
        first | refine sk ?_ | (refine rr (rd_move rfl) ?_)
        first | refine sk ?_ | (refine rr (rd_move rfl) ?_)
        first | refine sk ?_ | (refine rr (rd_move rfl) ?_)
        first | refine sk ?_ | (refine rr (rd_str_lss rfl rfl) ?_)
        first | refine sk ?_ | (refine rr (rd_pick rfl rfl) ?_)
        refine rr (rd_pick rfl rfl) ?_
        refine run_nil ?_
        refine St.kp [(1, _), (2, _), (3, _), (11, _), (13, _), (69, _)] ?_
        refine St.then_n ?_
        exact St.sb (St.kq [(1, _), (2, _), (3, _), (11, _), (13, _), (69, _)] (h := hK () trivial))
      · refine do_region ?_
        refine rr (rd_move rfl) ?_
        refine rr ((rd_str_eql (b := []) rfl rfl).eq (congrArg Value.bool htM)) ?_
        refine rr (rd_move rfl) ?_
        first | refine sk ?_ | (refine rr (rd_move rfl) ?_)
        first | refine sk ?_ | (refine rr (rd_move rfl) ?_)
        first | refine sk ?_ | (refine rr ((rd_str_lss rfl rfl).eq (congrArg Value.bool htL)) ?_)
        refine rr (rd_pick rfl rfl) ?_
        refine rr (rd_move rfl) ?_
        first | refine sk ?_ | (refine rr (rd_move rfl) ?_)
        first | refine sk ?_ | (refine rr ((rd_str_neq (b := []) rfl rfl).eq (congrArg Value.bool htT)) ?_)
        first | refine sk ?_ | (refine rr (rd_move rfl) ?_)
        first | refine sk ?_ | (refine rr (rd_move rfl) ?_)
        first | refine sk ?_ | (refine rr (rd_move rfl) ?_)
        first | refine sk ?_ | (refine rr (rd_str_lss rfl rfl) ?_)
        first | refine sk ?_ | (refine rr (rd_pick rfl rfl) ?_)
        refine rr (rd_pick rfl rfl) ?_
        refine run_nil ?_
        refine St.kp [(1, _), (2, _), (3, _), (11, _), (13, _), (69, _)] ?_
        refine St.then_n ?_
        exact St.sb (St.kq [(1, _), (2, _), (3, _), (11, _), (13, _), (69, _)] (h := hK () trivial))
      · refine do_region ?_
        refine rr (rd_move rfl) ?_
        refine rr ((rd_str_eql (b := []) rfl rfl).eq (congrArg Value.bool htM)) ?_
        refine rr (rd_move rfl) ?_
        first | refine sk ?_ | (refine rr (rd_move rfl) ?_)
        first | refine sk ?_ | (refine rr (rd_move rfl) ?_)
        first | refine sk ?_ | (refine rr ((rd_str_lss rfl rfl).eq (congrArg Value.bool htL)) ?_)
        refine rr (rd_pick rfl rfl) ?_
        refine rr (rd_move rfl) ?_
        first | refine sk ?_ | (refine rr (rd_move rfl) ?_)
        first | refine sk ?_ | (refine rr ((rd_str_neq (b := []) rfl rfl).eq (congrArg Value.bool htT)) ?_)
        first | refine sk ?_ | (refine rr (rd_move rfl) ?_)
        first | refine sk ?_ | (refine rr (rd_move rfl) ?_)
        first | refine sk ?_ | (refine rr (rd_move rfl) ?_)
        first | refine sk ?_ | (refine rr (rd_str_lss rfl rfl) ?_)
        first | refine sk ?_ | (refine rr (rd_pick rfl rfl) ?_)
        refine rr (rd_pick rfl rfl) ?_
        refine run_nil ?_
        refine St.kp [(1, _), (2, _), (3, _), (11, _), (13, _), (69, _)] ?_
        refine St.then_n ?_
        exact St.sb (St.kq [(1, _), (2, _), (3, _), (11, _), (13, _), (69, _)] (h := hK () trivial))
    rintro ⟨⟩ -
    first | refine do_condp rfl (fun h69 => ?_) (fun h69 => ?_) | refine do_cond rfl (fun h69 => ?_) (fun h69 => ?_)
    · refine sr ?_
      refine rc (hs := known_spec _) (k := ?_)
      rintro ⟨⟩ -
      try simp only [List.cons_append, List.nil_append]
      refine rr (rd_assign rfl) ?_
      refine run_nil ?_
      refine St.kp [(8, _)] ?_
      refine St.then_n ?_
      refine do_ret ?_
      refine St.then_r ?_
      refine do_ret1 Try.results3 (res_tmp rfl) ?_
      intro w hw
      exact ⟨rfl, hw.to_fr (by repeat (first | with_reducible exact Sel.head | apply Sel.tail))⟩
    · have hmeet : mid ≠ [] ∧ ¬ cmpB mid fr < 0 ∧ (to ≠ [] → ¬ cmpB to mid < 0) := by
        rw [← htM, ← htL, ← htT] at h69
        have h70 : (¬ mid = [] ∧ 0 ≤ cmpB mid fr) ∧ (¬ to = [] → 0 ≤ cmpB to mid) := by simpa using h69
        exact ⟨h70.1.1, by omega, fun h => by have := h70.2 h; omega⟩
      refine do_skip ?_
      refine St.then_n ?_
      refine sr ?_
      refine rr (rd_move rfl) ?_
      refine rr (rd_move rfl) ?_
      refine rr (rd_move rfl) ?_
      refine rc (hs := all_spec _ t p d 122 rt S1 hg1 dep r (L.map Pm.kv) hT hms fr mid (hsl _ _)) (k := ?_)
      rintro ⟨⟨A6, c6⟩, L6⟩ ⟨hL6, hd6⟩
      dsimp only at hL6 hd6 ⊢
      have hl6 : L6.length ≤ n := by have := congrArg List.length hL6; rw [List.length_map] at this; rw [this]; exact Nat.le_trans (List.length_filter_le _ _) (by omega)
      try simp only [List.cons_append, List.nil_append]
      refine rr (rd_move rfl) ?_
      refine rr (rd_move rfl) ?_
      refine rr (rd_move rfl) ?_
      refine rc (hs := all_spec _ t p d 122 rt S1 hg1 dep r (L.map Pm.kv) hT hms mid to (hsl _ _)) (k := ?_)
      rintro ⟨⟨A7, c7⟩, L7⟩ ⟨hL7, hd7⟩
      dsimp only at hL7 hd7 ⊢
      have hl7 : L7.length ≤ n := by have := congrArg List.length hL7; rw [List.length_map] at this; rw [this]; exact Nat.le_trans (List.length_filter_le _ _) (by omega)
      have hL8 : (L6 ++ L7).map Pm.kv = (L.filter fun y => inR fr to y.kv).map Pm.kv := by rw [List.map_append, hL6, hL7, filter_kv]; exact sel_meet hmeet.1 hmeet.2.1 hmeet.2.2 hms
      have hl8 : L6.length + L7.length = (L.filter fun y => inR fr to y.kv).length := by have := congrArg List.length hL8; rwa [List.length_map, List.length_map, List.length_append] at this
      have hd8 : ∀ x ∈ L6 ++ L7, x.del = false := fun x hx => (List.mem_append.1 hx).elim (hd6 x) (hd7 x)
      try simp only [List.cons_append, List.nil_append]
      refine r_apQ (f := prC) (L := L6) (M := L7) (n := L6.length) (q := L7.length) prC_len prC_one Try.underlying22 ei55 (X := ownP (.slice A7 L7.length c7) L7.length L7) vw_Q rfl (by omega) (by omega) (by omega) (fun v8 _ => ?_)
      rw [hl8]
      refine St.Q_sl fun A8 c8 hv8 _ _ _ => ?_
      subst hv8
      refine rr (rd_move rfl) ?_
      refine rr (rd_move rfl) ?_
      refine rr (rd_move rfl) ?_
      refine rc (hs := part_spec _ b43 A n c L (Vw.sep hV (by repeat (first | with_reducible exact Sel.head | apply Sel.tail))) hn (by omega) fr to) (k := ?_)
      rintro ⟨A9, c9⟩ -
      dsimp only
      try simp only [List.cons_append, List.nil_append]
      refine rc (hs := sameP_spec _ A8 A9 (L.filter fun y => inR fr to y.kv).length c8 c9 (L6 ++ L7) (L.filter fun y => inR fr to y.kv) (Vw.sep (X := ownQ prC 55 3 (.slice A8 _ c8) _ _) (vw_Q (f := prC)) (by repeat (first | with_reducible exact Sel.head | apply Sel.tail))) (fun x hx => (List.mem_append.1 hx).elim (fun h => Vw.sep (pr_vw h) (by repeat (first | with_reducible exact Sel.head | apply Sel.tail))) (fun h => Vw.sep (pr_vw h) (by repeat (first | with_reducible exact Sel.head | apply Sel.tail)))) (Vw.sep (X := ownP (.slice A9 _ c9) _ _) (vw_Q (f := prC)) (by repeat (first | with_reducible exact Sel.head | apply Sel.tail))) (fun x hx => Vw.sep (fm hX x hx) (by repeat (first | with_reducible exact Sel.head | apply Sel.tail))) (by rw [List.length_append]; exact hl8) (q_eq hL8 hd8 (fm hR.del))) (k := ?_)
      rintro ⟨⟩ -
      try simp only [List.cons_append, List.nil_append]
      refine rr (rd_move rfl) ?_
      first
        | refine sk ?_
        | (refine rc (hs := known_spec _) (k := ?_)
           rintro ⟨⟩ -
           try simp only [List.cons_append, List.nil_append])
      refine rr (rd_pick rfl rfl) ?_
      refine rr (rd_assign rfl) ?_
      refine run_nil ?_
      refine St.kp [(8, _)] ?_
      refine St.then_n ?_
      refine do_ret ?_
      refine do_ret1 Try.results3 (res_tmp rfl) ?_
      intro w hw
      exact ⟨rfl, hw.to_fr (by repeat (first | with_reducible exact Sel.head | apply Sel.tail))⟩
end Go.Proofs.Ytgeldfgcicjidaa
