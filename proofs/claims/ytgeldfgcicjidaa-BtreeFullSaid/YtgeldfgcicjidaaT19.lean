/-
  A tree of pairs whose keys rise.
-/
import Derived.Test.YtgeldfgcicjidaaT18
namespace Go.Proofs.Ytgeldfgcicjidaa
open Go.RowKit
set_option linter.unusedSimpArgs false
set_option linter.unusedVariables false

def imOf (x : Pm) : Im := ⟨x.k, x.A, x.cp, x.b, 0⟩
theorem ps_imOf (L : List Pm) : ps (L.map imOf) = (L.map Pm.kv).map lfI := by rw [ps, List.map_map, List.map_map]; rfl
/-- Pairs that can be loaded. -/
structure RiseOk (L : List Pm) : Prop where
  ok : ∀ x ∈ L, okKV x.kv
  del : ∀ x ∈ L, x.del = false
  srt : KSrt (L.map Pm.kv)
/-- What comes of a load. -/
structure LdOk (S S' : PS) (k : Nat) (l : List KV) (root : Int) : Prop where
  ext : Ext S S' k
  cnt : S.fre.length ≤ S'.fre.length + l.length
  tree : ∃ dep r, IsR S' dep r root l ∧ dep ≤ l.length
theorem ld_tree {S S1 S2 : PS} {k : Nat} {l : List KV} {K : List (Nat × List KV)} {P : List Nat} {rt : Int} (h1 : Ext S S1 k) (h2 : S1.fre.length + P.length = S.fre.length) (h3 : 2 * P.length ≤ l.length + 1) (h4 : ∀ x ∈ K, IsT S1 0 x.2.length x.1 x.2) (h5 : kvs K = l) (h6 : K.length = P.length) (hg : GrowOk S1 k 0 K (S2, rt, true)) : LdOk S S2 k l rt := by
  refine ⟨h1.trans hg.ext, ?_, ?_⟩
  · have := hg.cnt; dsimp only at this; omega
  · rcases K with _ | ⟨x, K⟩
    · have := hg.nil rfl
      simp only [Prod.mk.injEq] at this
      obtain ⟨rfl, rfl, -⟩ := this
      exact ⟨0, 0, .inl ⟨rfl, h5.symm, rfl, rfl⟩, Nat.zero_le _⟩
    · obtain ⟨d', r, i, e, ht, -, hd⟩ := hg.yes rfl (by simp)
      rw [h5] at ht
      exact ⟨d', r, .inr ⟨i, e, ht⟩, by simp only [List.length_cons] at *; omega⟩
set_option maxHeartbeats 8000000 in
theorem load_spec (F : HP) (p d k : Nat) (S : PS) (hS : S.good k) (A : Option Addr) (n c : Nat) (L : List Pm) (hV : Vw F (.slice A n c) 3 n (L.flatMap prC)) (hX : ∀ x ∈ L, VwB F x.v x.b) (hn : L.length = n) (hr : RiseOk L) (hl : n ≤ 4096) (hf : n ≤ S.fre.length) :
    Spec Try.prog 9 [.pointer (some ⟨p, 0, none⟩), .slice A n c] [pagerO d p S] F (fun y : Nat × PS × Int => LdOk S y.2.1 k (L.map Pm.kv) y.2.2) (fun y => .tuple #[.pointer (some ⟨y.1, 0, none⟩), .int .i64 0]) (fun y => [treeO y.1 p y.2.2, pagerO d p y.2.1]) := by
  intro ω w hh
  refine enter Try.func9 rfl Try.ntmps9 rfl hh ?_
  simp only [List.cons_append, List.nil_append, argsB]
  have hok2 : ∀ x ∈ L.map imOf, x.p.ok := fun x hx => by
    obtain ⟨y, hy, rfl⟩ := List.mem_map.1 hx
    exact lfI_ok.2 (hr.ok y hy)
  obtain ⟨l, hll⟩ : ∃ l, L.map Pm.kv = l := ⟨_, rfl⟩
  have hok : ∀ x ∈ l, okKV x := fun x hx => by
    rw [← hll] at hx
    obtain ⟨y, hy, rfl⟩ := List.mem_map.1 hx
    exact hr.ok y hy
  have hln : l.length = n := by rw [← hll, List.length_map, hn]
  have hps : ps (L.map imOf) = l.map lfI := by rw [ps_imOf, hll]
  refine sr ?_
  refine rr (rd_assign rfl) ?_
  refine rr (rd_assign rfl) ?_
  refine nx ?_
  refine do_seq ?_
  refine sr ?_
  refine rr (rd_move rfl) ?_
  refine rr (rd_ptr_eq_nil Try.underlying26 rfl rfl) ?_
  refine nx ?_
  refine do_cond_f rfl ?_
  refine do_skip ?_
  refine St.then_n ?_
  refine sr ?_
  refine rr (rd_assign rfl) ?_
  refine run_nil ?_
  refine St.kp [(0, _), (1, _), (6, _)] ?_
  refine St.then_n ?_
  refine do_seq ?_
  refine sr ?_
  refine rr (rd_move rfl) ?_
  refine rr (rd_len Try.underlying22 rfl) ?_
  refine rr (rd_move rfl) ?_
  refine nx ?_
  refine do_block ?_
  refine St.nilQ (f := imC) (T := 69) (k := 3) (St.ent (Q := ownI (.slice none 0 0) 0 ((L.take 0).map imOf)) (fun _ h => h) ?_)
  refine do_lp (fun y : Nat × Option Addr × Nat => y.1 ≤ n) (fun y => [(0, .pointer (some ⟨p, 0, none⟩)), (1, .slice A n c), (6, .slice y.2.1 y.1 y.2.2), (14, .slice A n c), (15, .int .i64 n), (16, .int .i64 y.1)]) (fun y => [ownI (.slice y.2.1 y.1 y.2.2) y.1 ((L.take y.1).map imOf), pagerO d p S, F]) (fun y => n - y.1) (0, none, 0) (Nat.zero_le _) ?_
  rintro ⟨i, A1, c1⟩ hi
  dsimp only at hi ⊢
  refine sr ?_
  refine rr (rd_lt rfl rfl) ?_
  refine nx ?_
  refine do_seq ?_
  first | refine do_condp rfl (fun h17 => ?_) (fun h17 => ?_) | refine do_cond rfl (fun h17 => ?_) (fun h17 => ?_)
  · have hx := List.getElem?_eq_getElem (l := L) (i := i) (by omega)
    have hxm := List.mem_of_getElem? hx
    generalize L[i]'_ = x at hx hxm
    have hxo := hr.ok x hxm
    have hxd := hr.del x hxm
    have htk := take_get' hx
    obtain ⟨ym, hym⟩ : ∃ ym : Pm, 0 < i → L[i - 1]? = some ym ∧ cmpB ym.k x.k < 0 := by
      by_cases h0 : 0 < i
      · have hy := List.getElem?_eq_getElem (l := L) (i := i - 1) (by omega)
        refine ⟨_, fun _ => ⟨hy, ?_⟩⟩
        have h1 := hr.srt.lt (i := i - 1) (j := i) (by omega) (x := (L[i - 1]'(by omega)).kv) (y := x.kv) (by rw [List.getElem?_map, hy]; rfl) (by rw [List.getElem?_map, hx]; rfl)
        exact h1
      · exact ⟨⟨[], none, 0, [], false⟩, fun h => absurd h h0⟩
    obtain ⟨xk, xA, xc, xb, xd⟩ := x
    obtain ⟨xk1, xk2, xb80⟩ := hxo
    dsimp only at hxd xk1 xk2 xb80 hym
    subst hxd
    obtain ⟨tI, htI⟩ : ∃ tI, decide ((0 : Int) < i) = tI := ⟨_, rfl⟩
    refine St.vw_some hV (by repeat (first | with_reducible exact Sel.head | apply Sel.tail)) (by omega) (fun g of hg _ _ => ?_)
    subst hg
    refine do_skip ?_
    refine St.then_n ?_
    refine do_seq ?_
    refine do_block ?_
    refine sr ?_
    refine rr (rd_move rfl) ?_
    refine rr ((rd_indexAddr Try.underlying22 ei55 rfl rfl (by omega) (by omega)).eq (show _ = Value.pointer (some ⟨g, of + i * 3, none⟩) by simp)) ?_
    refine rr (rd_ldr _ rfl row55 (Vw.cells (vs := [.string (strOf xk), .slice xA xb.length xc, .bool false]) hV (by repeat (first | with_reducible exact Sel.head | apply Sel.tail)) (by omega) (flat_at prC_len hx))) ?_
    refine r_al zero55 fun b8 => ?_
    refine rr (rd_assign rfl) ?_
    first | refine r_sa row55 ?_ | refine r_sm row55 ?_
    refine run_nil ?_
    refine St.kp [(0, _), (1, _), (6, _), (7, _), (8, _), (14, _), (15, _), (16, _)] ?_
    refine St.then_n ?_
    refine do_seq ?_
    refine do_seq ?_
    refine do_cut (fun _ : Unit => True) (fun _ => [(0, .pointer (some ⟨p, 0, none⟩)), (1, .slice (some ⟨g, of, none⟩) n c), (6, .slice A1 i c1), (8, .pointer (some ⟨b8, 0, none⟩)), (14, .slice (some ⟨g, of, none⟩) n c), (15, .int .i64 n), (16, .int .i64 i), (45, .bool false)]) (fun _ => [pts b8 55 [.string (strOf xk), .slice xA xb.length xc, .bool false], ownI (.slice A1 i c1) i ((L.take i).map imOf), pagerO d p S, F]) (fun K hK => ?_) ?_
    · cases tI
      · refine do_draw [[1, 4, 5, 6, 7, 8, 9, 10, 11, 12, 13, 14, 15, 16, 17, 18, 19, 20, 21, 22, 23, 24], [4, 5, 6, 7, 8, 9, 10, 11, 12, 13, 14, 15, 16, 17, 18, 19, 20, 21, 22, 23, 24], [3, 4, 5, 6, 7, 8, 9, 10, 11, 12, 13, 14, 15, 16, 17, 18, 19, 20, 21, 22, 23, 24], [4, 5, 6, 7, 8, 9, 10, 11, 12, 13, 14, 15, 16, 17, 18, 19, 20, 21, 22, 23, 24], [5, 6, 7, 8, 9, 10, 11, 12, 13, 14, 15, 16, 17, 18, 19, 20, 21, 22, 23, 24], [6, 7, 8, 9, 10, 11, 12, 13, 14, 15, 16, 17, 18, 19, 20, 21, 22, 23, 24], [7, 8, 9, 10, 11, 12, 13, 14, 15, 16, 17, 18, 19, 20, 21, 22, 23, 24], [8, 9, 10, 11, 12, 13, 14, 15, 16, 17, 18, 19, 20, 21, 22, 23, 24], [9, 10, 11, 12, 13, 14, 15, 16, 17, 18, 19, 20, 21, 22, 23, 24], [10, 11, 12, 13, 14, 15, 16, 17, 18, 19, 20, 21, 22, 23, 24], [11, 12, 13, 14, 15, 16, 17, 18, 19, 20, 21, 22, 23, 24], [12, 13, 14, 15, 16, 17, 18, 19, 20, 21, 22, 23, 24], [13, 14, 15, 16, 17, 18, 19, 20, 21, 22, 23, 24], [14, 15, 16, 17, 18, 19, 20, 21, 22, 23, 24], [17, 18, 19, 22, 23, 24], [16, 17, 18, 19, 22, 23, 24], [17, 18, 19, 22, 23, 24], [18, 19, 22, 23, 24], [19, 22, 23, 24], [22, 23, 24], [21, 22, 23, 24], [22, 23, 24], [23, 24], [24], []] (by kernel_rfl) rfl ?_
        refine ta 0 rfl (rd_fa rfl fld55_0) ?_
        refine ta 1 rfl (rd_ld rfl row9) ?_
        refine ta 2 rfl (rd_fa rfl fld55_1) ?_
        refine ta 3 rfl (rd_ld rfl row44) ?_
        refine tr 4 ?_
        refine rc (hs := rightPair_spec _ xk xA xb.length xc (by omega) (by omega)) (k := ?_)
        rintro ⟨⟩ -
        rw [decide_eq_true ⟨by omega, xk2, xb80⟩]
        try simp only [List.cons_append, List.nil_append]
        refine nx ?_
        refine any_next (by apply bd 3; apply bd 2; apply bd 1; apply bd 0; exact .nil) ?_
        refine ta 5 rfl (rd_not rfl) ?_
        refine ta 6 rfl (rd_move rfl) ?_
        first | refine ts 7 ?_ | refine ta 7 rfl (rd_fa rfl fld55_2) ?_
        first | refine ts 8 ?_ | refine ta 8 rfl (rd_ld rfl row4) ?_
        refine ta 9 rfl (rd_pick rfl rfl) ?_
        refine ta 10 rfl (rd_move rfl) ?_
        first | refine ts 11 ?_ | refine ta 11 rfl (rd_move rfl) ?_
        first | refine ts 12 ?_ | refine ta 12 rfl ((rd_gt rfl rfl).eq (congrArg Value.bool htI)) ?_
        first | refine ts 13 ?_ | refine ta 13 rfl (rd_move rfl) ?_
        first | refine ts 14 ?_ | refine ta 14 rfl (rd_move rfl) ?_
        first | refine ts 15 ?_ | refine ta 15 rfl (rd_move rfl) ?_
        first | refine ts 16 ?_ | refine ta 16 rfl (rd_subi rfl rfl) ?_
        first | refine ts 17 ?_ | refine ta 17 rfl ((rd_indexAddr Try.underlying22 ei55 rfl rfl (by have := of_decide_eq_true htI; omega) (by omega)).eq (show _ = Value.pointer (some ⟨g, of + (i - 1) * 3, none⟩) by rw [show ((i : Int) - 1).toNat = i - 1 by omega])) ?_
        first | refine ts 18 ?_ | refine ta 18 rfl (rd_fa (off' := of + ((i - 1) * 3 + 0)) rfl fld55_0 rfl) ?_
        first | refine ts 19 ?_ | refine ta 19 rfl (rd_ld rfl row9 (Vw.cells1 (v := .string (strOf ym.k)) hV (by repeat (first | with_reducible exact Sel.head | apply Sel.tail)) (by omega) (flat_cell prC_len (hym (by have := of_decide_eq_true htI; omega)).1 (j := 0) (by decide) rfl))) ?_
        first | refine ts 20 ?_ | refine ta 20 rfl (rd_fa rfl fld55_0) ?_
        first | refine ts 21 ?_ | refine ta 21 rfl (rd_ld rfl row9) ?_
        first | refine ts 22 ?_ | refine ta 22 rfl ((rd_str_geq rfl rfl).eq (congrArg Value.bool (decide_eq_false (by have := (hym (by have := of_decide_eq_true htI; omega)).2; omega)))) ?_
        first | refine ts 23 ?_ | refine ta 23 rfl (rd_pick rfl rfl) ?_
        refine ta 24 rfl (rd_pick rfl rfl) ?_
        refine any_nil (by kernel_rfl) ?_
        refine St.then_n ?_
        exact St.sb (St.kq [(0, _), (1, _), (6, _), (8, _), (14, _), (15, _), (16, _), (45, _)] (h := hK () trivial))
      · refine do_draw [[1, 4, 5, 6, 7, 8, 9, 10, 11, 12, 13, 14, 15, 16, 17, 18, 19, 20, 21, 22, 23, 24], [4, 5, 6, 7, 8, 9, 10, 11, 12, 13, 14, 15, 16, 17, 18, 19, 20, 21, 22, 23, 24], [3, 4, 5, 6, 7, 8, 9, 10, 11, 12, 13, 14, 15, 16, 17, 18, 19, 20, 21, 22, 23, 24], [4, 5, 6, 7, 8, 9, 10, 11, 12, 13, 14, 15, 16, 17, 18, 19, 20, 21, 22, 23, 24], [5, 6, 7, 8, 9, 10, 11, 12, 13, 14, 15, 16, 17, 18, 19, 20, 21, 22, 23, 24], [6, 7, 8, 9, 10, 11, 12, 13, 14, 15, 16, 17, 18, 19, 20, 21, 22, 23, 24], [7, 8, 9, 10, 11, 12, 13, 14, 15, 16, 17, 18, 19, 20, 21, 22, 23, 24], [8, 9, 10, 11, 12, 13, 14, 15, 16, 17, 18, 19, 20, 21, 22, 23, 24], [9, 10, 11, 12, 13, 14, 15, 16, 17, 18, 19, 20, 21, 22, 23, 24], [10, 11, 12, 13, 14, 15, 16, 17, 18, 19, 20, 21, 22, 23, 24], [11, 12, 13, 14, 15, 16, 17, 18, 19, 20, 21, 22, 23, 24], [12, 13, 14, 15, 16, 17, 18, 19, 20, 21, 22, 23, 24], [13, 14, 15, 16, 17, 18, 19, 20, 21, 22, 23, 24], [14, 15, 16, 17, 18, 19, 20, 21, 22, 23, 24], [17, 18, 19, 22, 23, 24], [16, 17, 18, 19, 22, 23, 24], [17, 18, 19, 22, 23, 24], [18, 19, 22, 23, 24], [19, 22, 23, 24], [22, 23, 24], [21, 22, 23, 24], [22, 23, 24], [23, 24], [24], []] (by kernel_rfl) rfl ?_
        refine ta 0 rfl (rd_fa rfl fld55_0) ?_
        refine ta 1 rfl (rd_ld rfl row9) ?_
        refine ta 2 rfl (rd_fa rfl fld55_1) ?_
        refine ta 3 rfl (rd_ld rfl row44) ?_
        refine tr 4 ?_
        refine rc (hs := rightPair_spec _ xk xA xb.length xc (by omega) (by omega)) (k := ?_)
        rintro ⟨⟩ -
        rw [decide_eq_true ⟨by omega, xk2, xb80⟩]
        try simp only [List.cons_append, List.nil_append]
        refine nx ?_
        refine any_next (by apply bd 3; apply bd 2; apply bd 1; apply bd 0; exact .nil) ?_
        refine ta 5 rfl (rd_not rfl) ?_
        refine ta 6 rfl (rd_move rfl) ?_
        first | refine ts 7 ?_ | refine ta 7 rfl (rd_fa rfl fld55_2) ?_
        first | refine ts 8 ?_ | refine ta 8 rfl (rd_ld rfl row4) ?_
        refine ta 9 rfl (rd_pick rfl rfl) ?_
        refine ta 10 rfl (rd_move rfl) ?_
        first | refine ts 11 ?_ | refine ta 11 rfl (rd_move rfl) ?_
        first | refine ts 12 ?_ | refine ta 12 rfl ((rd_gt rfl rfl).eq (congrArg Value.bool htI)) ?_
        first | refine ts 13 ?_ | refine ta 13 rfl (rd_move rfl) ?_
        first | refine ts 14 ?_ | refine ta 14 rfl (rd_move rfl) ?_
        first | refine ts 15 ?_ | refine ta 15 rfl (rd_move rfl) ?_
        first | refine ts 16 ?_ | refine ta 16 rfl (rd_subi rfl rfl) ?_
        first | refine ts 17 ?_ | refine ta 17 rfl ((rd_indexAddr Try.underlying22 ei55 rfl rfl (by have := of_decide_eq_true htI; omega) (by omega)).eq (show _ = Value.pointer (some ⟨g, of + (i - 1) * 3, none⟩) by rw [show ((i : Int) - 1).toNat = i - 1 by omega])) ?_
        first | refine ts 18 ?_ | refine ta 18 rfl (rd_fa (off' := of + ((i - 1) * 3 + 0)) rfl fld55_0 rfl) ?_
        first | refine ts 19 ?_ | refine ta 19 rfl (rd_ld rfl row9 (Vw.cells1 (v := .string (strOf ym.k)) hV (by repeat (first | with_reducible exact Sel.head | apply Sel.tail)) (by omega) (flat_cell prC_len (hym (by have := of_decide_eq_true htI; omega)).1 (j := 0) (by decide) rfl))) ?_
        first | refine ts 20 ?_ | refine ta 20 rfl (rd_fa rfl fld55_0) ?_
        first | refine ts 21 ?_ | refine ta 21 rfl (rd_ld rfl row9) ?_
        first | refine ts 22 ?_ | refine ta 22 rfl ((rd_str_geq rfl rfl).eq (congrArg Value.bool (decide_eq_false (by have := (hym (by have := of_decide_eq_true htI; omega)).2; omega)))) ?_
        first | refine ts 23 ?_ | refine ta 23 rfl (rd_pick rfl rfl) ?_
        refine ta 24 rfl (rd_pick rfl rfl) ?_
        refine any_nil (by kernel_rfl) ?_
        refine St.then_n ?_
        exact St.sb (St.kq [(0, _), (1, _), (6, _), (8, _), (14, _), (15, _), (16, _), (45, _)] (h := hK () trivial))
    rintro ⟨⟩ -
    refine do_cond_f rfl ?_
    refine do_skip ?_
    refine St.then_n ?_
    refine do_region ?_
    refine rr (rd_move rfl) ?_
    refine rr (rd_fa rfl fld55_0) ?_
    refine rr (rd_ld rfl row9) ?_
    refine rr (rd_fa rfl fld55_1) ?_
    refine rr (rd_ld rfl row44) ?_
    refine rr (rd_bd [_, _, _] zero69 plc69) ?_
    refine r_bs1 (f := imC) ⟨xk, xA, xc, xb, 0⟩ (imC_len _) Try.underlying67 ei69 (by decide) (fun b52 => ?_)
    refine r_apQ (f := imC) (L := (L.take i).map imOf) (M := [⟨xk, xA, xc, xb, 0⟩]) (n := i) imC_len imC_one Try.underlying67 ei69 (X := ownI (.slice (some ⟨b52, 0, none⟩) 1 1) 1 [⟨xk, xA, xc, xb, 0⟩]) vw_Q rfl (by omega) (by omega) (by omega) (fun v5 _ => ?_)
    rw [show (L.take i).map imOf ++ [⟨xk, xA, xc, xb, 0⟩] = (L.take (i + 1)).map imOf by rw [htk, List.map_append]; rfl]
    refine St.Q_sl fun A5 c5 hv5 _ _ _ => ?_
    subst hv5
    refine rr (rd_assign rfl) ?_
    refine run_nil ?_
    refine St.kp [(0, _), (1, _), (6, _), (14, _), (15, _), (16, _)] ?_
    refine St.blk_n ?_
    refine St.then_n ?_
    refine do_region ?_
    refine rr (rd_addi rfl rfl) ?_
    refine rr (rd_move rfl) ?_
    refine nx ?_
    exact loop_bk (i + 1, A5, c5) (by dsimp only; omega) (hμ := by dsimp only; omega)
  · obtain rfl : i = n := by omega
    rw [List.take_of_length_le (by omega)]
    refine do_exit ?_
    refine St.then_x ?_
    refine St.then_x ?_
    refine St.blk_s ?_
    refine St.then_n ?_
    refine sr ?_
    refine rr (rd_move rfl) ?_
    refine rr (rd_bd [_, _] zero71 plc71) ?_
    refine r_bx fun b57 => ?_
    refine rr (rd_assign rfl) ?_
    refine run_nil ?_
    refine St.kp [(6, _), (9, _)] ?_
    refine St.then_n ?_
    refine sr ?_
    refine rr (rd_move rfl) ?_
    refine rr (rd_move rfl) ?_
    refine St.sl (P := pts b57 71 [.pointer (some ⟨p, 0, none⟩), .int .i64 (-1)]) (St.ent (Q := treeO b57 p (-1)) (fun _ h => h) ?_)
    refine rc (hs := parts_spec _ true A1 i c1 (L.map imOf) (Vw.sep (vw_Q (f := imC)) (by repeat (first | with_reducible exact Sel.head | apply Sel.tail))) (by rw [List.length_map, hn]) (by omega) hok2) (k := ?_)
    rintro ⟨⟨A3, c3⟩, N⟩ ⟨hN3, hNl⟩
    dsimp only at hN3 hNl ⊢
    have hNp := parts_ps hN3
    have hNe := parts_encs hN3 hNl
    rw [hps] at hNp hNe
    have hp2 := (partsB_ok (leaf := true) (l := l.map lfI) (fun x hx => by obtain ⟨y, hy, rfl⟩ := List.mem_map.1 hx; exact lfI_ok.2 (hok y hy)) (fun x hx => by obtain ⟨y, hy, rfl⟩ := List.mem_map.1 hx; rfl)).2
    have hpb := partsB_leaf (l := l.map lfI) (fun x hx => by obtain ⟨y, hy, rfl⟩ := List.mem_map.1 hx; exact lfI_ok.2 (hok y hy))
    rw [List.length_map] at hpb
    have hNn : N.length = (partsB true (l.map lfI)).length := by rw [← hNp, List.length_map]
    have hnd : ∀ y ∈ N, NdOk y.leaf (ps y.l) := fun y hy => by rw [hNl y hy]; exact hp2 _ (hNp ▸ List.mem_map_of_mem (f := fun y : Nm => ps y.l) hy)
    have hXL : okV F (L.map imOf) := fun x hx => by obtain ⟨y, hy, rfl⟩ := List.mem_map.1 hx; exact hX y hy
    try simp only [List.cons_append, List.nil_append]
    refine rc (hs := written_spec _ b57 p d k (-1) S hS N A3 N.length c3 rfl (by omega) (Vw.sep (vw_Q (f := ndC)) (by repeat (first | with_reducible exact Sel.head | apply Sel.tail))) (fun y hy => Vw.sep (vw_row hy) (by repeat (first | with_reducible exact Sel.head | apply Sel.tail))) (fun y hy x hx => Vw.sep (hXL x (parts_mem hN3 hy x hx)) (by repeat (first | with_reducible exact Sel.head | apply Sel.tail))) hnd) (k := ?_)
    rintro ⟨A4, c4⟩ -
    dsimp only
    have hWk := wrAll_ok hS (encs N) (fun b hb => by obtain ⟨y, hy, rfl⟩ := List.mem_map.1 hb; exact nd_len (hnd y hy))
    rw [hNe] at hWk ⊢
    obtain ⟨⟨S1, P, ok⟩, hW⟩ : ∃ r, wrAll S ((partsB true (l.map lfI)).map (encN true)) = r := ⟨_, rfl⟩
    rw [hW] at hWk ⊢
    obtain rfl : ok = true := by
      cases ok with
      | true => rfl
      | false =>
        obtain ⟨n1, n2⟩ := hWk.no rfl
        have n3 := hWk.cnt
        dsimp only at n1 n2 n3
        rw [List.length_map] at n2
        rw [n1, List.length_nil] at n3
        omega
    obtain ⟨e, v1, v2, K, u1, u2, u3, u4⟩ := leaf_up hS hok hW
    have hPl : P.length = N.length := by have := hWk.yes rfl; rw [List.length_map, ← hNn] at this; exact this
    have hul : (upM N P).length = N.length := by rw [upM_len (by omega), hPl]
    have hg1 := e.good hS
    have hgr := grow_tree N.length hg1 (fun x hx => ⟨_, (u2 x hx).1⟩) (by omega)
    have hpu : ps (upM N P) = K.map mdI := by rw [upM_ps, hNp, u1]
    dsimp only [wrH, wrV]
    try simp only [List.cons_append, List.nil_append]
    refine rr (rd_move rfl) ?_
    refine rr (rd_extract rfl rfl) ?_
    refine rr (rd_extract rfl rfl) ?_
    refine rr (rd_assign rfl) ?_
    refine rr (rd_assign rfl) ?_
    refine run_nil ?_
    refine St.kp [(9, _), (10, _), (11, _)] ?_
    refine St.then_n ?_
    refine do_seq ?_
    refine sr ?_
    refine rr (rd_move rfl) ?_
    refine rr ((rd_eq rfl rfl).eq (show _ = Value.bool true from rfl)) ?_
    refine nx ?_
    refine do_cond_t rfl ?_
    refine do_region ?_
    refine rr (rd_move rfl) ?_
    refine rr (rd_move rfl) ?_
    refine rr (rd_move rfl) ?_
    refine rc (hs := grown_spec _ b57 p d k (-1) S1 hg1 N.length (upM N P) A4 N.length c4 hul (by omega) (Nat.le_refl _) (upM_nil N P) (by rw [hpu]; exact mdI_ok hg1.1 (fun x hx => ⟨_, (u2 x hx).1⟩)) (Vw.sep (vw_Q (f := imC)) (by repeat (first | with_reducible exact Sel.head | apply Sel.tail)))) (k := ?_)
    rintro ⟨⟩ -
    rw [hpu]
    obtain ⟨⟨S2, rt, ok2⟩, hG⟩ : ∃ R, growF N.length S1 (K.map mdI) = R := ⟨_, rfl⟩
    rw [hG] at hgr ⊢
    obtain rfl : ok2 = true := by
      cases ok2 with
      | true => rfl
      | false =>
        have := (hgr.no rfl).2
        omega
    simp only [List.cons_append, List.nil_append]
    refine St.sl (P := treeO b57 p (-1)) (St.ent (Q := pts b57 71 [.pointer (some ⟨p, 0, none⟩), .int .i64 (-1)]) (fun _ h => h) ?_)
    try simp only [List.cons_append, List.nil_append]
    refine rr (rd_move rfl) ?_
    refine rr (rd_extract rfl rfl) ?_
    refine rr (rd_extract rfl rfl) ?_
    refine rr (rd_nilCheck rfl) ?_
    refine rr (rd_fa rfl fld71_1) ?_
    refine r_st row3 ?_
    refine rr (rd_assign rfl) ?_
    refine run_nil ?_
    refine St.kp [(9, _), (11, _)] ?_
    refine St.then_n ?_
    refine do_seq ?_
    refine sr ?_
    refine rr (rd_move rfl) ?_
    refine rr ((rd_ne rfl rfl).eq (show _ = Value.bool false from rfl)) ?_
    refine nx ?_
    refine do_cond_f rfl ?_
    refine do_skip ?_
    refine St.then_n ?_
    refine sr ?_
    refine rr (rd_move rfl) ?_
    refine rr (rd_assign rfl) ?_
    refine rr (rd_assign rfl) ?_
    refine run_nil ?_
    refine St.kp [(4, _), (5, _)] ?_
    refine St.then_n ?_
    refine do_ret ?_
    refine do_ret2 Try.results9 (res_tmp rfl) (res_tmp rfl) ?_
    intro w hw
    exact ⟨(b57, S2, rt), hll ▸ ld_tree e v1 (by omega) (fun x hx => (u2 x hx).1) u3 u4 hgr, rfl, by unfold treeO; exact hw.sb⟩
end Go.Proofs.Ytgeldfgcicjidaa
