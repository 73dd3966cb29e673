/-
  The law NetPlays: step, alike.
-/
import Derived.Test.YtnfmmfodnhmfaaaNC
import Derived.Test.YtnfmmfodnhmfaaaD1
namespace Go.Proofs.Ytnfmmfodnhmfaaa
open Go.RowKit
set_option linter.unusedSimpArgs false
set_option linter.unusedVariables false

/-- What a script's call is told. -/
structure NetOp where
  kind : Int
  from_ : Int
  n : Int
  A : Option Addr
  c : Nat
  B : List UInt8
abbrev NetOp.v (o : NetOp) : Value := .slice o.A o.B.length o.c
section
variable {p r : Nat} {L : List Letter} {M : List RLet} {D : List (Value × List UInt8)}
theorem rletK_len (hI : RInv M D L) (k : Int) : (rletK M k).d.length ≤ 1048576 := by
  unfold rletK
  split
  · rename_i h
    rw [List.getD_eq_getElem?_getD, List.getElem?_eq_getElem (by omega), Option.getD_some]
    exact hI.len _ (List.getElem_mem _)
  · simp
theorem rinv_lens (hI : RInv M D L) : ∀ x ∈ L, x.d.length ≤ 140737488351232 := by
  intro x hx
  rw [← hI.eq, List.mem_map] at hx
  obtain ⟨y, hy, rfl⟩ := hx
  have := hI.len y hy
  show y.d.length ≤ _
  omega
theorem letK_eq (hI : RInv M D L) (k : Int) : letK L k = ⟨(rletK M k).f, (rletK M k).t, (rletK M k).d⟩ := by rw [← hI.eq]; exact letK_map M k
theorem whyK_eq (hI : RInv M D L) (k : Int) : whyK L k = rwhyK M k := by rw [← hI.eq]; exact whyK_map M k
theorem St.ref_shut {ω : Amb} {m : Nat} {ds : List Deferred} {Γ Γ1 : List HP} {β : List (Nat × Value)} {K : Act → World → Prop} {A : Option Addr} {cap : Nat}
    (q : Pick [pts r 46 [.slice A M.length cap], own (.slice A M.length cap) 32 3 M.length (cellsM M), poolP D] Γ Γ1) (h : St ω m ds (refM r M D :: Γ1) β K) : St ω m ds Γ β K := fun a w b c =>
  h a w (Holds.ref_close (Holds.unpick (b.pick q))) c
abbrev Both (p r : Nat) (x : List Letter × List RLet × List (Value × List UInt8)) : List HP := [netP p x.1, refM r x.2.1 x.2.2]
set_option maxHeartbeats 1000000 in
theorem step_spec (F : HP) (o : NetOp) (hF : VwB F o.v o.B) (hB : o.B.length ≤ 140737488351232) (hI : RInv M D L) :
    Spec Try.prog 18 [.pointer (some ⟨p, 0, none⟩), .pointer (some ⟨r, 0, none⟩), .agg #[.int .i64 o.kind, .int .i64 o.from_, .int .i64 o.n, o.v]] [netP p L, refM r M D] F
      (fun x : List Letter × List RLet × List (Value × List UInt8) => RInv x.2.1 x.2.2 x.1) (fun _ => .bool true) (Both p r) := by
  intro ω w hh
  refine enter Try.func18 rfl Try.ntmps18 rfl hh ?_
  simp only [List.cons_append, List.nil_append, argsB]
  obtain ⟨kind, fr, n, Ab, cb, B⟩ := o
  dsimp only at hF hB ⊢
  have eL := letK_eq hI n
  have eW := whyK_eq hI n
  have hxl := rletK_len hI n
  have hxv := rletK_mem hI n
  have hlen := rinv_lens hI
  obtain ⟨x, hx⟩ : ∃ x, rletK M n = x := ⟨_, rfl⟩
  rw [hx] at eL hxl hxv
  unfold NetOp.v at *
  dsimp only at hF hh ⊢
  refine do_seq ?_
  refine do_region ?_
  refine run_box_row rfl (by decide) rfl (fun b5 => ?_)
  refine run_read rfl (by decide) (fun _ => nofun) (rd_assign rfl) ?_
  refine run_nil ?_
  refine St.then_n ?_
  refine do_seq ?_
  refine do_seq ?_
  refine do_region ?_
  first | refine run_read rfl (by decide) (fun _ => nofun) (rd_fieldAddr0 rfl fld30_0) ?_ | refine run_read rfl (by decide) (fun _ => nofun) (rd_fieldAddr rfl fld30_0) ?_
  refine run_read rfl (by decide) (fun _ => nofun) (rd_load rfl row3 (cells_pts1 (by repeat (first | with_reducible exact Sel.head | apply Sel.tail)) rfl)) ?_
  refine run_nil ?_
  refine St.then_n ?_
  refine do_block ?_
  refine do_seq ?_
  refine do_seq ?_
  refine do_region ?_
  refine run_read rfl (by decide) (fun _ => nofun) (rd_eq rfl rfl) ?_
  refine run_read rfl (by decide) (fun _ => nofun) (rd_assign rfl) ?_
  refine run_nil ?_
  refine St.keep (β' := [(0, _), (1, _), (5, _), (19, _), (20, _)]) ⟨rfl, rfl, rfl, rfl, rfl, trivial⟩ ?_
  refine St.then_n ?_
  refine do_cut (fun b : Bool => b = decide (kind = 0 ∨ kind = 1 ∨ kind = 2)) (fun b => [(0, .pointer (some ⟨p, 0, none⟩)), (1, .pointer (some ⟨r, 0, none⟩)), (5, .pointer (some ⟨b5, 0, none⟩)), (19, .int .i64 kind), (20, .bool b)]) (fun _ => [pts b5 30 [.int .i64 kind, .int .i64 fr, .int .i64 n, .slice Ab B.length cb], netP p L, refM r M D, F]) (fun K hK => ?_) ?_
  · first | refine do_condp rfl (fun h20 => ?_) (fun h20 => ?_) | refine do_cond rfl (fun h20 => ?_) (fun h20 => ?_)
    · refine do_skip ?_
      refine St.then_n ?_
      exact St.keep (β' := [(0, _), (1, _), (5, _), (19, _), (20, _)]) ⟨rfl, rfl, rfl, rfl, rfl, trivial⟩ (hK _ (decide_eq_decide.2 (by omega)))
    · refine do_seq ?_
      refine do_region ?_
      refine run_read rfl (by decide) (fun _ => nofun) (rd_eq rfl rfl) ?_
      refine run_read rfl (by decide) (fun _ => nofun) (rd_assign rfl) ?_
      refine run_nil ?_
      refine St.then_n ?_
      first | refine do_condp rfl (fun h20 => ?_) (fun h20 => ?_) | refine do_cond rfl (fun h20 => ?_) (fun h20 => ?_)
      · refine do_skip ?_
        refine St.then_n ?_
        exact St.keep (β' := [(0, _), (1, _), (5, _), (19, _), (20, _)]) ⟨rfl, rfl, rfl, rfl, rfl, trivial⟩ (hK _ (decide_eq_decide.2 (by omega)))
      · refine do_region ?_
        refine run_read rfl (by decide) (fun _ => nofun) (rd_eq rfl rfl) ?_
        refine run_read rfl (by decide) (fun _ => nofun) (rd_assign rfl) ?_
        refine run_nil ?_
        refine St.then_n ?_
        exact St.keep (β' := [(0, _), (1, _), (5, _), (19, _), (20, _)]) ⟨rfl, rfl, rfl, rfl, rfl, trivial⟩ (hK _ (decide_eq_decide.2 (by omega)))
  rintro b hb
  first | refine do_condp rfl (fun h20 => ?_) (fun h20 => ?_) | refine do_cond rfl (fun h20 => ?_) (fun h20 => ?_)
  · refine do_seq ?_
    refine do_region ?_
    first | refine run_read rfl (by decide) (fun _ => nofun) (rd_fieldAddr0 rfl fld30_3) ?_ | refine run_read rfl (by decide) (fun _ => nofun) (rd_fieldAddr rfl fld30_3) ?_
    refine run_read rfl (by decide) (fun _ => nofun) (rd_load rfl row28 (cells_pts1 (by repeat (first | with_reducible exact Sel.head | apply Sel.tail)) rfl)) ?_
    refine run_spec rfl (by decide) (by kernel_rfl) rfl (by repeat (first | exact Pick.nil | apply Pick.cons (by repeat (first | with_reducible exact Sel.head | apply Sel.tail)))) (lent_spec _ _ B (by first | with_reducible exact vwb_nil _ | exact Vw.sep hF (by repeat (first | with_reducible exact Sel.head | apply Sel.tail)) | exact Vw.sep hG (by repeat (first | with_reducible exact Sel.head | apply Sel.tail)) | exact Vw.sep vw_bytes (by repeat (first | with_reducible exact Sel.head | apply Sel.tail))) hB) ?_
    rintro v1 -
    try simp only [List.cons_append, List.nil_append]
    refine run_read rfl (by decide) (fun _ => nofun) (rd_assign rfl) ?_
    refine run_nil ?_
    refine St.keep (β' := [(0, _), (1, _), (5, _), (7, _)]) ⟨rfl, rfl, rfl, rfl, trivial⟩ ?_
    refine St.then_n ?_
    refine do_seq ?_
    refine do_region ?_
    refine run_read rfl (by decide) (fun _ => nofun) (rd_move rfl) ?_
    first | refine run_read rfl (by decide) (fun _ => nofun) (rd_fieldAddr0 rfl fld30_1) ?_ | refine run_read rfl (by decide) (fun _ => nofun) (rd_fieldAddr rfl fld30_1) ?_
    refine run_read rfl (by decide) (fun _ => nofun) (rd_load rfl row3 (cells_pts1 (by repeat (first | with_reducible exact Sel.head | apply Sel.tail)) rfl)) ?_
    first | refine run_read rfl (by decide) (fun _ => nofun) (rd_fieldAddr0 rfl fld30_2) ?_ | refine run_read rfl (by decide) (fun _ => nofun) (rd_fieldAddr rfl fld30_2) ?_
    refine run_read rfl (by decide) (fun _ => nofun) (rd_load rfl row3 (cells_pts1 (by repeat (first | with_reducible exact Sel.head | apply Sel.tail)) rfl)) ?_
    refine run_read rfl (by decide) (fun _ => nofun) (rd_move rfl) ?_
    refine run_spec rfl (by decide) (by kernel_rfl) rfl (by repeat (first | exact Pick.nil | apply Pick.cons (by repeat (first | with_reducible exact Sel.head | apply Sel.tail)))) (send_spec _ fr n v1 B (Vw.sep vw_lent (by repeat (first | with_reducible exact Sel.head | apply Sel.tail))) hB) ?_
    rintro ⟨⟩ -
    try simp only [List.cons_append, List.nil_append]
    refine run_read rfl (by decide) (fun _ => nofun) (rd_assign rfl) ?_
    refine run_nil ?_
    refine St.keep (β' := [(1, _), (5, _), (7, _), (8, _)]) ⟨rfl, rfl, rfl, rfl, trivial⟩ ?_
    refine St.then_n ?_
    refine do_seq ?_
    refine do_region ?_
    refine run_read rfl (by decide) (fun _ => nofun) (rd_move rfl) ?_
    first | refine run_read rfl (by decide) (fun _ => nofun) (rd_fieldAddr0 rfl fld30_3) ?_ | refine run_read rfl (by decide) (fun _ => nofun) (rd_fieldAddr rfl fld30_3) ?_
    refine run_read rfl (by decide) (fun _ => nofun) (rd_load rfl row28 (cells_pts1 (by repeat (first | with_reducible exact Sel.head | apply Sel.tail)) rfl)) ?_
    refine run_spec rfl (by decide) (by kernel_rfl) rfl (by repeat (first | exact Pick.nil | apply Pick.cons (by repeat (first | with_reducible exact Sel.head | apply Sel.tail)))) (kept_spec _ v1 _ B (by first | with_reducible exact vwb_nil _ | exact Vw.sep hF (by repeat (first | with_reducible exact Sel.head | apply Sel.tail)) | exact Vw.sep hG (by repeat (first | with_reducible exact Sel.head | apply Sel.tail)) | exact Vw.sep vw_bytes (by repeat (first | with_reducible exact Sel.head | apply Sel.tail))) hB) ?_
    rintro ⟨⟩ -
    try simp only [List.cons_append, List.nil_append]
    refine run_read rfl (by decide) (fun _ => nofun) (rd_move rfl) ?_
    first | (refine run_skip rfl rfl ?_) | (refine run_read rfl (by decide) (fun _ => nofun) (rd_move rfl) ?_)
    first | (refine run_skip rfl rfl ?_) | (refine run_read rfl (by decide) (fun _ => nofun) (rd_move rfl) ?_)
    first | (refine run_skip rfl rfl ?_) | (first | refine run_read rfl (by decide) (fun _ => nofun) (rd_fieldAddr0 rfl fld30_1) ?_ | refine run_read rfl (by decide) (fun _ => nofun) (rd_fieldAddr rfl fld30_1) ?_)
    first | (refine run_skip rfl rfl ?_) | (refine run_read rfl (by decide) (fun _ => nofun) (rd_load rfl row3 (cells_pts1 (by repeat (first | with_reducible exact Sel.head | apply Sel.tail)) rfl)) ?_)
    first | (refine run_skip rfl rfl ?_) | (first | refine run_read rfl (by decide) (fun _ => nofun) (rd_fieldAddr0 rfl fld30_2) ?_ | refine run_read rfl (by decide) (fun _ => nofun) (rd_fieldAddr rfl fld30_2) ?_)
    first | (refine run_skip rfl rfl ?_) | (refine run_read rfl (by decide) (fun _ => nofun) (rd_load rfl row3 (cells_pts1 (by repeat (first | with_reducible exact Sel.head | apply Sel.tail)) rfl)) ?_)
    first | (refine run_skip rfl rfl ?_) | (first | refine run_read rfl (by decide) (fun _ => nofun) (rd_fieldAddr0 rfl fld30_3) ?_ | refine run_read rfl (by decide) (fun _ => nofun) (rd_fieldAddr rfl fld30_3) ?_)
    first | (refine run_skip rfl rfl ?_) | (refine run_read rfl (by decide) (fun _ => nofun) (rd_load rfl row28 (cells_pts1 (by repeat (first | with_reducible exact Sel.head | apply Sel.tail)) rfl)) ?_)
    first
      | (refine run_skip rfl rfl ?_)
      | (refine run_spec rfl (by decide) (by kernel_rfl) rfl (by repeat (first | exact Pick.nil | apply Pick.cons (by repeat (first | with_reducible exact Sel.head | apply Sel.tail)))) (rsend_spec _ L fr n _ B hI (by first | with_reducible exact vwb_nil _ | exact Vw.sep hF (by repeat (first | with_reducible exact Sel.head | apply Sel.tail)) | exact Vw.sep hG (by repeat (first | with_reducible exact Sel.head | apply Sel.tail)) | exact Vw.sep vw_bytes (by repeat (first | with_reducible exact Sel.head | apply Sel.tail))) hB) ?_
         rintro ⟨M1, D1⟩ hI1
         try simp only [List.cons_append, List.nil_append])
    first | (refine run_skip rfl rfl ?_) | (refine run_read rfl (by decide) (fun _ => nofun) ((rd_eq rfl rfl).eq (show _ = Value.bool true by simp)) ?_)
    first | refine run_read rfl (by decide) (fun _ => nofun) (rd_pick_t rfl rfl) ?_ | refine run_read rfl (by decide) (fun _ => nofun) (rd_pick_f rfl rfl) ?_
    refine run_read rfl (by decide) (fun _ => nofun) (rd_assign rfl) ?_
    refine run_nil ?_
    refine St.keep (β' := [(7, _), (9, _)]) ⟨rfl, rfl, trivial⟩ ?_
    refine St.then_n ?_
    refine do_seq ?_
    refine do_region ?_
    refine run_read rfl (by decide) (fun _ => nofun) (rd_move rfl) ?_
    refine St.sel (P := lentO v1 B) (by repeat (first | with_reducible exact Sel.head | apply Sel.tail)) (St.ent (fun _ => lent_bytes) ?_)
    refine run_spec rfl (by decide) (by kernel_rfl) rfl (by repeat (first | exact Pick.nil | apply Pick.cons (by repeat (first | with_reducible exact Sel.head | apply Sel.tail)))) (spoil_spec _ v1 B hB) ?_
    rintro ⟨⟩ -
    try simp only [List.cons_append, List.nil_append]
    refine run_nil ?_
    refine St.then_n ?_
    refine do_seq ?_
    refine do_region ?_
    refine run_read rfl (by decide) (fun _ => nofun) (rd_move rfl) ?_
    refine run_read rfl (by decide) (fun _ => nofun) (rd_assign rfl) ?_
    refine run_nil ?_
    refine St.keep (β' := [(6, _)]) ⟨rfl, trivial⟩ ?_
    refine St.then_n ?_
    refine do_ret ?_
    refine St.blk_r ?_
    refine St.then_r ?_
    refine do_ret1 Try.results18 (res_tmp rfl) ?_
    intro w hw
    exact ⟨(if sendWhy L fr n B = 0 then L ++ [⟨fr, n, B⟩] else L, M1, D1), hI1, rfl, by dsimp only [Both]; exact hw.sub (by repeat (first | exact Pick.nil | apply Pick.cons (by repeat (first | with_reducible exact Sel.head | apply Sel.tail))))⟩
  · refine do_seq ?_
    refine do_region ?_
    refine run_read rfl (by decide) (fun _ => nofun) (rd_eq rfl rfl) ?_
    refine run_read rfl (by decide) (fun _ => nofun) (rd_assign rfl) ?_
    refine run_nil ?_
    refine St.then_n ?_
    first | refine do_condp rfl (fun h53 => ?_) (fun h53 => ?_) | refine do_cond rfl (fun h53 => ?_) (fun h53 => ?_)
    · refine do_seq ?_
      refine do_region ?_
      refine run_read rfl (by decide) (fun _ => nofun) (rd_move rfl) ?_
      first | refine run_read rfl (by decide) (fun _ => nofun) (rd_fieldAddr0 rfl fld30_2) ?_ | refine run_read rfl (by decide) (fun _ => nofun) (rd_fieldAddr rfl fld30_2) ?_
      refine run_read rfl (by decide) (fun _ => nofun) (rd_load rfl row3 (cells_pts1 (by repeat (first | with_reducible exact Sel.head | apply Sel.tail)) rfl)) ?_
      refine run_spec rfl (by decide) (by kernel_rfl) rfl (by repeat (first | exact Pick.nil | apply Pick.cons (by repeat (first | with_reducible exact Sel.head | apply Sel.tail)))) (take_spec _ n) ?_
      rintro v1 -
      rw [eL, eW]
      dsimp only
      refine St.vw vw_bytes .head (fun A1 c1 hv _ _ _ => ?_)
      subst hv
      try simp only [List.cons_append, List.nil_append]
      refine run_read rfl (by decide) (fun _ => nofun) (rd_move rfl) ?_
      refine run_read rfl (by decide) (fun _ => nofun) (rd_extract rfl rfl) ?_
      refine run_read rfl (by decide) (fun _ => nofun) (rd_extract rfl rfl) ?_
      refine run_alloc rfl (by decide) zero35 (fun b10 => ?_)
      first | refine run_store_all rfl rfl rfl (by repeat (first | with_reducible exact Sel.head | apply Sel.tail)) row35 rfl rfl rfl ?_ | refine run_store_mid rfl rfl rfl (by repeat (first | with_reducible exact Sel.head | apply Sel.tail)) row35 rfl rfl rfl (by simp only [setL, List.length_cons, List.length_nil, Nat.reduceAdd, List.take_succ_cons, List.take_zero, List.drop_succ_cons, List.drop_zero, List.cons_append, List.nil_append, List.append_nil]; exact rfl) ?_
      refine run_read rfl (by decide) (fun _ => nofun) (rd_assign rfl) ?_
      refine run_nil ?_
      refine St.keep (β' := [(1, _), (5, _), (10, _), (11, _)]) ⟨rfl, rfl, rfl, rfl, trivial⟩ ?_
      refine St.then_n ?_
      refine do_seq ?_
      refine do_region ?_
      refine run_read rfl (by decide) (fun _ => nofun) (rd_move rfl) ?_
      first | refine run_read rfl (by decide) (fun _ => nofun) (rd_fieldAddr0 rfl fld30_2) ?_ | refine run_read rfl (by decide) (fun _ => nofun) (rd_fieldAddr rfl fld30_2) ?_
      refine run_read rfl (by decide) (fun _ => nofun) (rd_load rfl row3 (cells_pts1 (by repeat (first | with_reducible exact Sel.head | apply Sel.tail)) rfl)) ?_
      refine run_spec rfl (by decide) (by kernel_rfl) rfl (by repeat (first | exact Pick.nil | apply Pick.cons (by repeat (first | with_reducible exact Sel.head | apply Sel.tail)))) (rtake_spec _ L n hI) ?_
      rintro M1 hI1
      rw [hx]
      try simp only [List.cons_append, List.nil_append]
      refine run_read rfl (by decide) (fun _ => nofun) (rd_move rfl) ?_
      refine run_read rfl (by decide) (fun _ => nofun) (rd_extract rfl rfl) ?_
      refine run_read rfl (by decide) (fun _ => nofun) (rd_extract rfl rfl) ?_
      refine run_alloc rfl (by decide) zero32 (fun b12 => ?_)
      first | refine run_store_all rfl rfl rfl (by repeat (first | with_reducible exact Sel.head | apply Sel.tail)) row32 rfl rfl rfl ?_ | refine run_store_mid rfl rfl rfl (by repeat (first | with_reducible exact Sel.head | apply Sel.tail)) row32 rfl rfl rfl (by simp only [setL, List.length_cons, List.length_nil, Nat.reduceAdd, List.take_succ_cons, List.take_zero, List.drop_succ_cons, List.drop_zero, List.cons_append, List.nil_append, List.append_nil]; exact rfl) ?_
      refine run_read rfl (by decide) (fun _ => nofun) (rd_assign rfl) ?_
      refine run_nil ?_
      refine St.keep (β' := [(10, _), (11, _), (12, _), (13, _)]) ⟨rfl, rfl, rfl, rfl, trivial⟩ ?_
      refine St.then_n ?_
      refine do_seq ?_
      refine do_draw [[1, 3, 4, 5, 6, 7, 8, 9], [3, 4, 5, 6, 7, 8, 9], [3, 4, 5, 6, 7, 8, 9], [4, 5, 6, 7, 8, 9], [5, 6, 7, 8, 9], [7, 8, 9], [7, 8, 9], [8, 9], [9], []] (by kernel_rfl) rfl ?_
      refine any_take (i := 0) (by kernel_rfl) rfl rfl (by decide) (fun _ _ _ _ _ h => h) rfl (rd_load_row (vs := [_, _, _]) rfl row35 rfl (cells_pts (by repeat (first | with_reducible exact Sel.head | apply Sel.tail)) rfl)) ?_
      refine any_take (i := 2) (by kernel_rfl) rfl rfl (by decide) (fun _ _ _ _ _ h => h) rfl (rd_load_row (vs := [_, _, _]) rfl row32 rfl (cells_pts (by repeat (first | with_reducible exact Sel.head | apply Sel.tail)) rfl)) ?_
      refine any_run (j := 1) (by kernel_rfl) rfl ?_
      refine run_spec rfl (by decide) (by kernel_rfl) rfl (by repeat (first | exact Pick.nil | apply Pick.cons (by repeat (first | with_reducible exact Sel.head | apply Sel.tail)))) (as_spec _ _ _ _ _ _) ?_
      rintro ⟨⟩ -
      try simp only [List.cons_append, List.nil_append]
      refine run_nil ?_
      refine St.then_n ?_
      refine any_next (by (apply Beh.keep (i := 2) (by kernel_rfl) rfl (rd_load_row (vs := [_, _, _]) rfl row32 rfl (cells_pts (by repeat (first | with_reducible exact Sel.head | apply Sel.tail)) rfl))); apply Beh.drop (i := 0) (by kernel_rfl); exact .nil) ?_
      refine any_run (j := 3) (by kernel_rfl) rfl ?_
      refine run_spec rfl (by decide) (by kernel_rfl) rfl (by repeat (first | exact Pick.nil | apply Pick.cons (by repeat (first | with_reducible exact Sel.head | apply Sel.tail)))) (same_spec _ x.f x.t _ _ x.d (Vw.sep vw_bytes (by repeat (first | with_reducible exact Sel.head | apply Sel.tail))) (Vw.sep (vw_ref hxv) (by repeat (first | with_reducible exact Sel.head | apply Sel.tail)))) ?_
      rintro ⟨⟩ -
      try simp only [List.cons_append, List.nil_append]
      refine run_nil ?_
      refine St.then_n ?_
      refine any_next (by apply Beh.drop (i := 2) (by kernel_rfl); exact .nil) ?_
      refine any_take (i := 4) (by kernel_rfl) rfl rfl (by decide) (fun _ _ _ _ _ h => h) rfl (rd_move rfl) ?_
      first | refine any_skip (i := 5) (by kernel_rfl) rfl rfl (by decide) (fun _ _ _ _ _ h => h) rfl ?_ | refine any_take (i := 5) (by kernel_rfl) rfl rfl (by decide) (fun _ _ _ _ _ h => h) rfl (rd_move rfl) ?_
      first | refine any_skip (i := 6) (by kernel_rfl) rfl rfl (by decide) (fun _ _ _ _ _ h => h) rfl ?_ | refine any_take (i := 6) (by kernel_rfl) rfl rfl (by decide) (fun _ _ _ _ _ h => h) rfl (rd_move rfl) ?_
      first | refine any_skip (i := 7) (by kernel_rfl) rfl rfl (by decide) (fun _ _ _ _ _ h => h) rfl ?_ | refine any_take (i := 7) (by kernel_rfl) rfl rfl (by decide) (fun _ _ _ _ _ h => h) rfl ((rd_eq rfl rfl).eq (show _ = Value.bool true by simp)) ?_
      first | refine any_take (i := 8) (by kernel_rfl) rfl rfl (by decide) (fun _ _ _ _ _ h => h) rfl (rd_pick_t rfl rfl) ?_ | refine any_take (i := 8) (by kernel_rfl) rfl rfl (by decide) (fun _ _ _ _ _ h => h) rfl (rd_pick_f rfl rfl) ?_
      refine any_take (i := 9) (by kernel_rfl) rfl rfl (by decide) (fun _ _ _ _ _ h => h) rfl (rd_assign rfl) ?_
      refine any_nil (by kernel_rfl) ?_
      refine St.keep (β' := [(10, _), (14, _)]) ⟨rfl, rfl, trivial⟩ ?_
      refine St.then_n ?_
      refine do_seq ?_
      refine do_region ?_
      first | refine run_read rfl (by decide) (fun _ => nofun) (rd_fieldAddr0 rfl fld35_2) ?_ | refine run_read rfl (by decide) (fun _ => nofun) (rd_fieldAddr rfl fld35_2) ?_
      refine run_read rfl (by decide) (fun _ => nofun) (rd_load rfl row28 (cells_pts1 (by repeat (first | with_reducible exact Sel.head | apply Sel.tail)) rfl)) ?_
      refine run_spec rfl (by decide) (by kernel_rfl) rfl (by repeat (first | exact Pick.nil | apply Pick.cons (by repeat (first | with_reducible exact Sel.head | apply Sel.tail)))) (spoil_spec _ _ x.d (by omega)) ?_
      rintro ⟨⟩ -
      try simp only [List.cons_append, List.nil_append]
      refine run_nil ?_
      refine St.keep (β' := [(14, _)]) ⟨rfl, trivial⟩ ?_
      refine St.then_n ?_
      refine do_seq ?_
      refine do_region ?_
      refine run_read rfl (by decide) (fun _ => nofun) (rd_move rfl) ?_
      refine run_read rfl (by decide) (fun _ => nofun) (rd_assign rfl) ?_
      refine run_nil ?_
      refine St.then_n ?_
      refine do_ret ?_
      refine St.blk_r ?_
      refine St.then_r ?_
      refine do_ret1 Try.results18 (res_tmp rfl) ?_
      intro w hw
      exact ⟨(outK L n, M1, D), hI1, rfl, hw.sub (by repeat (first | exact Pick.nil | apply Pick.cons (by repeat (first | with_reducible exact Sel.head | apply Sel.tail))))⟩
    · refine do_seq ?_
      refine do_region ?_
      refine run_read rfl (by decide) (fun _ => nofun) (rd_eq rfl rfl) ?_
      refine run_read rfl (by decide) (fun _ => nofun) (rd_assign rfl) ?_
      refine run_nil ?_
      refine St.keep (β' := [(0, _), (1, _), (5, _), (19, _), (82, _)]) ⟨rfl, rfl, rfl, rfl, rfl, trivial⟩ ?_
      refine St.then_n ?_
      first | refine do_condp rfl (fun h82 => ?_) (fun h82 => ?_) | refine do_cond rfl (fun h82 => ?_) (fun h82 => ?_)
      · refine do_seq ?_
        refine do_region ?_
        refine run_read rfl (by decide) (fun _ => nofun) (rd_move rfl) ?_
        first | refine run_read rfl (by decide) (fun _ => nofun) (rd_fieldAddr0 rfl fld30_2) ?_ | refine run_read rfl (by decide) (fun _ => nofun) (rd_fieldAddr rfl fld30_2) ?_
        refine run_read rfl (by decide) (fun _ => nofun) (rd_load rfl row3 (cells_pts1 (by repeat (first | with_reducible exact Sel.head | apply Sel.tail)) rfl)) ?_
        refine run_spec rfl (by decide) (by kernel_rfl) rfl (by repeat (first | exact Pick.nil | apply Pick.cons (by repeat (first | with_reducible exact Sel.head | apply Sel.tail)))) (rtake_spec _ L n hI) ?_
        rintro M1 hI1
        rw [hx]
        try simp only [List.cons_append, List.nil_append]
        refine run_read rfl (by decide) (fun _ => nofun) (rd_move rfl) ?_
        refine run_read rfl (by decide) (fun _ => nofun) (rd_extract rfl rfl) ?_
        refine run_read rfl (by decide) (fun _ => nofun) (rd_extract rfl rfl) ?_
        refine run_alloc rfl (by decide) zero32 (fun b15 => ?_)
        first | refine run_store_all rfl rfl rfl (by repeat (first | with_reducible exact Sel.head | apply Sel.tail)) row32 rfl rfl rfl ?_ | refine run_store_mid rfl rfl rfl (by repeat (first | with_reducible exact Sel.head | apply Sel.tail)) row32 rfl rfl rfl (by simp only [setL, List.length_cons, List.length_nil, Nat.reduceAdd, List.take_succ_cons, List.take_zero, List.drop_succ_cons, List.drop_zero, List.cons_append, List.nil_append, List.append_nil]; exact rfl) ?_
        refine run_read rfl (by decide) (fun _ => nofun) (rd_assign rfl) ?_
        refine run_nil ?_
        refine St.keep (β' := [(0, _), (5, _), (16, _)]) ⟨rfl, rfl, rfl, trivial⟩ ?_
        refine St.then_n ?_
        refine do_seq ?_
        refine do_region ?_
        refine run_read rfl (by decide) (fun _ => nofun) (rd_move rfl) ?_
        first | refine run_read rfl (by decide) (fun _ => nofun) (rd_fieldAddr0 rfl fld30_2) ?_ | refine run_read rfl (by decide) (fun _ => nofun) (rd_fieldAddr rfl fld30_2) ?_
        refine run_read rfl (by decide) (fun _ => nofun) (rd_load rfl row3 (cells_pts1 (by repeat (first | with_reducible exact Sel.head | apply Sel.tail)) rfl)) ?_
        refine run_spec rfl (by decide) (by kernel_rfl) rfl (by repeat (first | exact Pick.nil | apply Pick.cons (by repeat (first | with_reducible exact Sel.head | apply Sel.tail)))) (drop_spec _ n) ?_
        rintro ⟨⟩ -
        rw [eW]
        try simp only [List.cons_append, List.nil_append]
        refine run_read rfl (by decide) (fun _ => nofun) (rd_move rfl) ?_
        refine run_read rfl (by decide) (fun _ => nofun) ((rd_eq rfl rfl).eq (show _ = Value.bool true by simp)) ?_
        refine run_read rfl (by decide) (fun _ => nofun) (rd_assign rfl) ?_
        refine run_nil ?_
        refine St.keep (β' := [(6, _)]) ⟨rfl, trivial⟩ ?_
        refine St.then_n ?_
        refine do_ret ?_
        refine St.blk_r ?_
        refine St.then_r ?_
        refine do_ret1 Try.results18 (res_tmp rfl) ?_
        intro w hw
        exact ⟨(outK L n, M1, D), hI1, rfl, hw.sub (by repeat (first | exact Pick.nil | apply Pick.cons (by repeat (first | with_reducible exact Sel.head | apply Sel.tail))))⟩
      · refine do_seq ?_
        refine do_region ?_
        refine run_read rfl (by decide) (fun _ => nofun) (rd_eq rfl rfl) ?_
        refine run_read rfl (by decide) (fun _ => nofun) (rd_assign rfl) ?_
        refine run_nil ?_
        refine St.then_n ?_
        first | refine do_condp rfl (fun h97 => ?_) (fun h97 => ?_) | refine do_cond rfl (fun h97 => ?_) (fun h97 => ?_)
        · refine do_seq ?_
          refine do_draw [[3, 7, 8, 9], [2, 3, 7, 8, 9], [3, 7, 8, 9], [7, 8, 9], [7, 8, 9], [6, 7, 8, 9], [7, 8, 9], [8, 9], [9], []] (by kernel_rfl) rfl ?_
          refine any_take (i := 0) (by kernel_rfl) rfl rfl (by decide) (fun _ _ _ _ _ h => h) rfl (rd_move rfl) ?_
          first | refine any_take (i := 1) (by kernel_rfl) rfl rfl (by decide) (fun _ _ _ _ _ h => h) rfl (rd_fieldAddr0 rfl fld30_2) ?_ | refine any_take (i := 1) (by kernel_rfl) rfl rfl (by decide) (fun _ _ _ _ _ h => h) rfl (rd_fieldAddr rfl fld30_2) ?_
          refine any_take (i := 2) (by kernel_rfl) rfl rfl (by decide) (fun _ _ _ _ _ h => h) rfl (rd_load rfl row3 (cells_pts1 (by repeat (first | with_reducible exact Sel.head | apply Sel.tail)) rfl)) ?_
          refine any_take (i := 4) (by kernel_rfl) rfl rfl (by decide) (fun _ _ _ _ _ h => h) rfl (rd_move rfl) ?_
          first | refine any_take (i := 5) (by kernel_rfl) rfl rfl (by decide) (fun _ _ _ _ _ h => h) rfl (rd_fieldAddr0 rfl fld30_2) ?_ | refine any_take (i := 5) (by kernel_rfl) rfl rfl (by decide) (fun _ _ _ _ _ h => h) rfl (rd_fieldAddr rfl fld30_2) ?_
          refine any_take (i := 6) (by kernel_rfl) rfl rfl (by decide) (fun _ _ _ _ _ h => h) rfl (rd_load rfl row3 (cells_pts1 (by repeat (first | with_reducible exact Sel.head | apply Sel.tail)) rfl)) ?_
          refine any_run (j := 3) (by kernel_rfl) rfl ?_
          refine run_spec rfl (by decide) (by kernel_rfl) rfl (by repeat (first | exact Pick.nil | apply Pick.cons (by repeat (first | with_reducible exact Sel.head | apply Sel.tail)))) (double_spec _ n hlen) ?_
          rintro ⟨⟩ -
          try simp only [List.cons_append, List.nil_append]
          refine run_nil ?_
          refine St.then_n ?_
          refine any_next (by (apply Beh.keep (i := 6) (by kernel_rfl) rfl (rd_load rfl row3 (cells_pts1 (by repeat (first | with_reducible exact Sel.head | apply Sel.tail)) rfl))); (first | apply Beh.keep (i := 5) (by kernel_rfl) rfl (rd_fieldAddr0 rfl fld30_2) | apply Beh.keep (i := 5) (by kernel_rfl) rfl (rd_fieldAddr rfl fld30_2)); apply Beh.keep (i := 4) (by kernel_rfl) rfl (rd_move rfl); apply Beh.drop (i := 2) (by kernel_rfl); apply Beh.drop (i := 1) (by kernel_rfl); apply Beh.drop (i := 0) (by kernel_rfl); exact .nil) ?_
          refine any_run (j := 7) (by kernel_rfl) rfl ?_
          refine run_spec rfl (by decide) (by kernel_rfl) rfl (by repeat (first | exact Pick.nil | apply Pick.cons (by repeat (first | with_reducible exact Sel.head | apply Sel.tail)))) (rdouble_spec _ L n hI) ?_
          rintro M1 hI1
          try simp only [List.cons_append, List.nil_append]
          refine run_nil ?_
          refine St.then_n ?_
          refine any_next (by apply Beh.drop (i := 6) (by kernel_rfl); apply Beh.drop (i := 5) (by kernel_rfl); apply Beh.drop (i := 4) (by kernel_rfl); exact .nil) ?_
          refine any_take (i := 8) (by kernel_rfl) rfl rfl (by decide) (fun _ _ _ _ _ h => h) rfl ((rd_eq rfl rfl).eq (show _ = Value.bool true by simp)) ?_
          refine any_take (i := 9) (by kernel_rfl) rfl rfl (by decide) (fun _ _ _ _ _ h => h) rfl (rd_assign rfl) ?_
          refine any_nil (by kernel_rfl) ?_
          refine St.keep (β' := [(6, _)]) ⟨rfl, trivial⟩ ?_
          refine St.then_n ?_
          refine do_ret ?_
          refine St.blk_r ?_
          refine St.then_r ?_
          refine do_ret1 Try.results18 (res_tmp rfl) ?_
          intro w hw
          exact ⟨(doubleL L n, M1, D), hI1, rfl, hw.sub (by repeat (first | exact Pick.nil | apply Pick.cons (by repeat (first | with_reducible exact Sel.head | apply Sel.tail))))⟩
        · refine do_seq ?_
          refine do_region ?_
          refine run_read rfl (by decide) (fun _ => nofun) (rd_eq rfl rfl) ?_
          refine run_read rfl (by decide) (fun _ => nofun) (rd_assign rfl) ?_
          refine run_nil ?_
          refine St.keep (β' := [(0, _), (1, _), (5, _), (108, _)]) ⟨rfl, rfl, rfl, rfl, trivial⟩ ?_
          refine St.then_n ?_
          first | refine do_condp rfl (fun h108 => ?_) (fun h108 => ?_) | refine do_cond rfl (fun h108 => ?_) (fun h108 => ?_)
          · refine do_seq ?_
            refine do_region ?_
            first | refine run_read rfl (by decide) (fun _ => nofun) (rd_fieldAddr0 rfl fld30_2) ?_ | refine run_read rfl (by decide) (fun _ => nofun) (rd_fieldAddr rfl fld30_2) ?_
            refine run_read rfl (by decide) (fun _ => nofun) (rd_load rfl row3 (cells_pts1 (by repeat (first | with_reducible exact Sel.head | apply Sel.tail)) rfl)) ?_
            refine run_spec rfl (by decide) (by kernel_rfl) rfl (by repeat (first | exact Pick.nil | apply Pick.cons (by repeat (first | with_reducible exact Sel.head | apply Sel.tail)))) (count_spec _ n 3 (by decide) (by decide)) ?_
            rintro ⟨⟩ -
            try simp only [List.cons_append, List.nil_append]
            refine run_read rfl (by decide) (fun _ => nofun) (rd_assign rfl) ?_
            refine run_nil ?_
            refine St.keep (β' := [(0, _), (1, _), (17, _)]) ⟨rfl, rfl, rfl, trivial⟩ ?_
            refine St.then_n ?_
            refine do_block ?_
            refine do_loop (fun x : List Letter × List RLet × List (Value × List UInt8) => RInv x.2.1 x.2.2 x.1) (fun _ => [(0, .pointer (some ⟨p, 0, none⟩)), (1, .pointer (some ⟨r, 0, none⟩)), (17, .int .i64 (n % 3))]) (fun x => [netP p x.1, refM r x.2.1 x.2.2, F]) (fun x => 10000 - x.1.length) (L, M, D) hI ⟨rfl, rfl, rfl, trivial⟩ (by repeat (first | exact Pick.nil | apply Pick.cons (by repeat (first | with_reducible exact Sel.head | apply Sel.tail)))) ?_
            rintro ⟨L1, M1, D1⟩ hI1
            dsimp only at hI1 ⊢
            have hl1 := hI1.l
            have hn1 := hI1.n
            refine do_seq ?_
            refine do_seq ?_
            refine do_region ?_
            refine St.sel (P := refM r M1 D1) (by repeat (first | with_reducible exact Sel.head | apply Sel.tail)) (St.ref_open fun A cap => ?_)
            refine run_read rfl (by decide) (fun _ => nofun) (rd_move rfl) ?_
            refine run_read rfl (by decide) (fun _ => nofun) (rd_nilCheck rfl) ?_
            first | refine run_read rfl (by decide) (fun _ => nofun) (rd_fieldAddr0 rfl fld46_0) ?_ | refine run_read rfl (by decide) (fun _ => nofun) (rd_fieldAddr rfl fld46_0) ?_
            refine run_read rfl (by decide) (fun _ => nofun) (rd_load rfl row25 (cells_pts1 (by repeat (first | with_reducible exact Sel.head | apply Sel.tail)) rfl)) ?_
            refine run_read rfl (by decide) (fun _ => nofun) (rd_len Try.underlying25 rfl) ?_
            refine run_read rfl (by decide) (fun _ => nofun) (rd_move rfl) ?_
            first | refine run_read rfl (by decide) (fun _ => nofun) ((rd_sub rfl rfl).eq (congrArg (Value.int .i64) (IntWalk.i64_in _ (by omega)))) ?_ | refine run_read rfl (by decide) (fun _ => nofun) (rd_sub rfl rfl) ?_
            refine run_read rfl (by decide) (fun _ => nofun) (rd_lt rfl rfl) ?_
            refine run_nil ?_
            refine St.keep (β' := [(0, _), (1, _), (17, _), (120, _)]) ⟨rfl, rfl, rfl, rfl, trivial⟩ ?_
            refine St.then_n ?_
            first | refine do_condp rfl (fun h120 => ?_) (fun h120 => ?_) | refine do_cond rfl (fun h120 => ?_) (fun h120 => ?_)
            · refine do_skip ?_
              refine St.then_n ?_
              refine do_block ?_
              refine do_seq ?_
              refine do_region ?_
              refine St.ref_shut (M := M1) (D := D1) (A := A) (cap := cap) (by repeat (first | exact Pick.nil | apply Pick.cons (by repeat (first | with_reducible exact Sel.head | apply Sel.tail)))) ?_
              refine run_read rfl (by decide) (fun _ => nofun) (rd_move rfl) ?_
              refine run_spec rfl (by decide) (by kernel_rfl) rfl (by repeat (first | exact Pick.nil | apply Pick.cons (by repeat (first | with_reducible exact Sel.head | apply Sel.tail)))) (send_spec _ 0 1 (.slice none 0 0) [] (vwb_nil _) (by simp)) ?_
              rintro ⟨⟩ -
              try simp only [List.cons_append, List.nil_append]
              refine run_read rfl (by decide) (fun _ => nofun) (rd_move rfl) ?_
              refine run_spec rfl (by decide) (by kernel_rfl) rfl (by repeat (first | exact Pick.nil | apply Pick.cons (by repeat (first | with_reducible exact Sel.head | apply Sel.tail)))) (rsend_spec _ L1 0 1 (.slice none 0 0) [] hI1 (vwb_nil _) (by simp)) ?_
              rintro ⟨M2, D2⟩ hI2
              try simp only [List.cons_append, List.nil_append]
              refine run_read rfl (by decide) (fun _ => nofun) ((rd_ne rfl rfl).eq (show _ = Value.bool false by simp)) ?_
              refine run_nil ?_
              refine St.keep (β' := [(0, _), (1, _), (17, _), (125, _)]) ⟨rfl, rfl, rfl, rfl, trivial⟩ ?_
              refine St.then_n ?_
              refine do_cond_f rfl ?_
              refine do_skip ?_
              refine St.blk_n ?_
              refine St.then_n ?_
              have hw0 : sendWhy L1 0 1 [] = 0 := by simp [sendWhy, someB]; omega
              rw [hw0, if_pos rfl] at hI2 ⊢
              exact loop_back (L1 ++ [⟨0, 1, []⟩], M2, D2) hI2 (by simp; omega) ⟨rfl, rfl, rfl, trivial⟩ (by repeat (first | exact Pick.nil | apply Pick.cons (by repeat (first | with_reducible exact Sel.head | apply Sel.tail))))
            · refine do_exit ?_
              refine St.then_x ?_
              refine St.then_x ?_
              refine St.blk_s ?_
              refine St.blk_n ?_
              refine St.then_n ?_
              refine do_seq ?_
              refine do_region ?_
              refine run_read rfl (by decide) (fun _ => nofun) (rd_assign rfl) ?_
              refine run_nil ?_
              refine St.keep (β' := [(6, _)]) ⟨rfl, trivial⟩ ?_
              refine St.then_n ?_
              refine do_ret ?_
              refine do_ret1 Try.results18 (res_tmp rfl) ?_
              intro w hw
              exact ⟨(L1, M1, D1), hI1, rfl, (hw.sub (Δ := [pts r 46 [.slice A M1.length cap], own (.slice A M1.length cap) 32 3 M1.length (cellsM M1), poolP D1, netP p L1, F]) (by repeat (first | exact Pick.nil | apply Pick.cons (by repeat (first | with_reducible exact Sel.head | apply Sel.tail))))).ref_close.swap_⟩
          · refine do_skip ?_
            refine St.blk_n ?_
            refine St.then_n ?_
            refine do_seq ?_
            refine do_region ?_
            refine run_read rfl (by decide) (fun _ => nofun) (rd_assign rfl) ?_
            refine run_nil ?_
            refine St.keep (β' := [(6, _)]) ⟨rfl, trivial⟩ ?_
            refine St.then_n ?_
            refine do_ret ?_
            refine do_ret1 Try.results18 (res_tmp rfl) ?_
            intro w hw
            exact ⟨(L, M, D), hI, rfl, hw.sub (by repeat (first | exact Pick.nil | apply Pick.cons (by repeat (first | with_reducible exact Sel.head | apply Sel.tail))))⟩
theorem rletK_at (hI : RInv M D L) (i : Nat) (x : Letter) (hx : L[i]? = some x) : ∃ y : RLet, M[i]? = some y ∧ y.L = x := by
  rw [← hI.eq, List.getElem?_map] at hx
  cases hm : M[i]? with
  | none => rw [hm] at hx; cases hx
  | some y => rw [hm] at hx; exact ⟨y, rfl, by simpa using hx⟩
set_option maxHeartbeats 1000000 in
theorem alike_spec (F : HP) (k : Int) (hI : RInv M D L) :
    Spec Try.prog 19 [.pointer (some ⟨p, 0, none⟩), .pointer (some ⟨r, 0, none⟩), .int .i64 k] [netP p L, refM r M D] F (fun _ : Unit => True) (fun _ => .bool true) (fun _ => [netP p L, refM r M D]) := by
  intro ω w hh
  refine enterM Try.func19 rfl Try.ntmps19 rfl hh ?_
  simp only [List.cons_append, List.nil_append, argsB]
  have eL := letK_eq hI k
  have eW := whyK_eq hI k
  have hxl := rletK_len hI k
  have hxv := rletK_mem hI k
  have hlen := rinv_lens hI
  have hml := hI.l
  have hn := hI.n
  obtain ⟨x, hx⟩ : ∃ x, rletK M k = x := ⟨_, rfl⟩
  rw [hx] at eL hxl hxv
  refine do_seq ?_
  refine do_region ?_
  refine run_box_one rfl (by decide) rfl rfl (fun b4 => ?_)
  refine run_alloc rfl (by decide) zero4 (fun b6 => ?_)
  refine run_nil ?_
  refine St.then_n ?_
  refine do_seq ?_
  refine do_region ?_
  refine run_read rfl (by decide) (fun _ => nofun) (rd_move rfl) ?_
  refine run_read rfl (by decide) (fun _ => nofun) (rd_move rfl) ?_
  refine run_spec rfl (by decide) (by kernel_rfl) rfl (by repeat (first | exact Pick.nil | apply Pick.cons (by repeat (first | with_reducible exact Sel.head | apply Sel.tail)))) (look_spec _ k) ?_
  rintro v1 -
  rw [eL, eW]
  dsimp only
  refine St.vw vw_bytes .head (fun A1 c1 hv _ _ _ => ?_)
  subst hv
  try simp only [List.cons_append, List.nil_append]
  refine run_read rfl (by decide) (fun _ => nofun) (rd_move rfl) ?_
  refine run_read rfl (by decide) (fun _ => nofun) (rd_extract rfl rfl) ?_
  refine run_read rfl (by decide) (fun _ => nofun) (rd_extract rfl rfl) ?_
  refine run_alloc rfl (by decide) zero35 (fun b7 => ?_)
  first | refine run_store_all rfl rfl rfl (by repeat (first | with_reducible exact Sel.head | apply Sel.tail)) row35 rfl rfl rfl ?_ | refine run_store_mid rfl rfl rfl (by repeat (first | with_reducible exact Sel.head | apply Sel.tail)) row35 rfl rfl rfl (by simp only [setL, List.length_cons, List.length_nil, Nat.reduceAdd, List.take_succ_cons, List.take_zero, List.drop_succ_cons, List.drop_zero, List.cons_append, List.nil_append, List.append_nil]; exact rfl) ?_
  refine run_read rfl (by decide) (fun _ => nofun) (rd_assign rfl) ?_
  refine run_nil ?_
  refine St.keep (β' := [(0, _), (2, _), (4, _), (6, _), (7, _), (8, _)]) ⟨rfl, rfl, rfl, rfl, rfl, rfl, trivial⟩ ?_
  refine St.then_n ?_
  refine do_seq ?_
  refine do_region ?_
  refine run_read rfl (by decide) (fun _ => nofun) (rd_load rfl row44 (cells_pts1 (by repeat (first | with_reducible exact Sel.head | apply Sel.tail)) rfl)) ?_
  refine run_read rfl (by decide) (fun _ => nofun) (rd_move rfl) ?_
  refine run_spec rfl (by decide) (by kernel_rfl) rfl (by repeat (first | exact Pick.nil | apply Pick.cons (by repeat (first | with_reducible exact Sel.head | apply Sel.tail)))) (rlook_spec _ k (by omega)) ?_
  rintro ⟨⟩ -
  rw [hx]
  try simp only [List.cons_append, List.nil_append]
  refine run_read rfl (by decide) (fun _ => nofun) (rd_move rfl) ?_
  refine run_read rfl (by decide) (fun _ => nofun) (rd_extract rfl rfl) ?_
  refine run_read rfl (by decide) (fun _ => nofun) (rd_extract rfl rfl) ?_
  refine run_alloc rfl (by decide) zero32 (fun b9 => ?_)
  first | refine run_store_all rfl rfl rfl (by repeat (first | with_reducible exact Sel.head | apply Sel.tail)) row32 rfl rfl rfl ?_ | refine run_store_mid rfl rfl rfl (by repeat (first | with_reducible exact Sel.head | apply Sel.tail)) row32 rfl rfl rfl (by simp only [setL, List.length_cons, List.length_nil, Nat.reduceAdd, List.take_succ_cons, List.take_zero, List.drop_succ_cons, List.drop_zero, List.cons_append, List.nil_append, List.append_nil]; exact rfl) ?_
  refine run_read rfl (by decide) (fun _ => nofun) (rd_assign rfl) ?_
  refine run_nil ?_
  refine St.keep (β' := [(0, _), (2, _), (4, _), (6, _), (7, _), (8, _), (9, _), (10, _)]) ⟨rfl, rfl, rfl, rfl, rfl, rfl, rfl, rfl, trivial⟩ ?_
  refine St.then_n ?_
  refine do_seq ?_
  refine do_seq ?_
  refine do_draw [[1, 7, 8, 9, 10, 11, 12, 13, 14, 15, 16, 17, 18, 19, 20, 21, 22, 23, 24, 25, 26, 27, 28, 29, 30, 31, 32, 33, 34, 35], [7, 8, 9, 10, 11, 12, 13, 14, 15, 16, 17, 18, 19, 20, 21, 22, 23, 24, 25, 26, 27, 28, 29, 30, 31, 32, 33, 34, 35], [3, 4, 5, 6, 7, 8, 9, 10, 11, 12, 13, 14, 15, 16, 17, 18, 19, 20, 21, 22, 23, 24, 25, 26, 27, 28, 29, 30, 31, 32, 33, 34, 35], [4, 5, 6, 7, 8, 9, 10, 11, 12, 13, 14, 15, 16, 17, 18, 19, 20, 21, 22, 23, 24, 25, 26, 27, 28, 29, 30, 31, 32, 33, 34, 35], [5, 6, 7, 8, 9, 10, 11, 12, 13, 14, 15, 16, 17, 18, 19, 20, 21, 22, 23, 24, 25, 26, 27, 28, 29, 30, 31, 32, 33, 34, 35], [6, 7, 8, 9, 10, 11, 12, 13, 14, 15, 16, 17, 18, 19, 20, 21, 22, 23, 24, 25, 26, 27, 28, 29, 30, 31, 32, 33, 34, 35], [7, 8, 9, 10, 11, 12, 13, 14, 15, 16, 17, 18, 19, 20, 21, 22, 23, 24, 25, 26, 27, 28, 29, 30, 31, 32, 33, 34, 35], [8, 9, 10, 11, 12, 13, 14, 15, 16, 17, 18, 19, 20, 21, 22, 23, 24, 25, 26, 27, 28, 29, 30, 31, 32, 33, 34, 35], [9, 10, 11, 12, 13, 14, 15, 16, 17, 18, 19, 20, 21, 22, 23, 24, 25, 26, 27, 28, 29, 30, 31, 32, 33, 34, 35], [10, 12, 13, 14, 15, 16, 17, 18, 19, 20, 21, 22, 23, 24, 25, 26, 27, 28, 29, 30, 31, 32, 33, 34, 35], [12, 13, 14, 15, 16, 17, 18, 19, 20, 21, 22, 23, 24, 25, 26, 27, 28, 29, 30, 31, 32, 33, 34, 35], [12, 13, 14, 15, 16, 17, 18, 19, 20, 21, 22, 23, 24, 25, 26, 27, 28, 29, 30, 31, 32, 33, 34, 35], [13, 14, 15, 16, 17, 18, 19, 20, 21, 22, 23, 24, 25, 26, 27, 28, 29, 30, 31, 32, 33, 34, 35], [14, 15, 16, 17, 18, 19, 20, 21, 22, 23, 24, 25, 26, 27, 28, 29, 30, 31, 32, 33, 34, 35], [15, 16, 17, 18, 19, 20, 21, 22, 23, 24, 25, 26, 27, 28, 29, 30, 31, 32, 33, 34, 35], [16, 17, 18, 19, 20, 21, 22, 23, 24, 25, 26, 27, 28, 29, 30, 31, 32, 33, 34, 35], [18, 19, 20, 21, 22, 23, 24, 25, 26, 27, 28, 29, 30, 31, 32, 33, 34, 35], [18, 19, 20, 21, 22, 23, 24, 25, 26, 27, 28, 29, 30, 31, 32, 33, 34, 35], [19, 20, 21, 22, 23, 24, 25, 26, 27, 28, 29, 30, 31, 32, 33, 34, 35], [20, 21, 22, 23, 24, 25, 26, 27, 28, 29, 30, 31, 32, 33, 34, 35], [21, 22, 23, 24, 25, 26, 27, 28, 29, 30, 31, 32, 33, 34, 35], [23, 26, 27, 28, 29, 30, 31, 32, 33, 34, 35], [23, 26, 27, 28, 29, 30, 31, 32, 33, 34, 35], [26, 27, 28, 29, 30, 31, 32, 33, 34, 35], [26, 27, 28, 29, 30, 31, 32, 33, 34, 35], [26, 27, 28, 29, 30, 31, 32, 33, 34, 35], [27, 28, 29, 30, 31, 32, 33, 34, 35], [28, 29, 30, 31, 32, 33, 34, 35], [29, 30, 31, 32, 33, 34, 35], [30, 31, 32, 33, 34, 35], [31, 33, 34, 35], [33, 34, 35], [33, 34, 35], [34, 35], [35], []] (by kernel_rfl) rfl ?_
  refine any_take (i := 0) (by kernel_rfl) rfl rfl (by decide) (fun _ _ _ _ _ h => h) rfl (rd_move rfl) ?_
  refine St.sel (P := refM r M D) (by repeat (first | with_reducible exact Sel.head | apply Sel.tail)) (St.ref_open fun A cap => ?_)
  refine any_take (i := 2) (by kernel_rfl) rfl rfl (by decide) (fun _ _ _ _ _ h => h) rfl (rd_load rfl row44 (cells_pts1 (by repeat (first | with_reducible exact Sel.head | apply Sel.tail)) rfl)) ?_
  refine any_take (i := 3) (by kernel_rfl) rfl rfl (by decide) (fun _ _ _ _ _ h => h) rfl (rd_nilCheck rfl) ?_
  first | refine any_take (i := 4) (by kernel_rfl) rfl rfl (by decide) (fun _ _ _ _ _ h => h) rfl (rd_fieldAddr0 rfl fld46_0) ?_ | refine any_take (i := 4) (by kernel_rfl) rfl rfl (by decide) (fun _ _ _ _ _ h => h) rfl (rd_fieldAddr rfl fld46_0) ?_
  refine any_take (i := 5) (by kernel_rfl) rfl rfl (by decide) (fun _ _ _ _ _ h => h) rfl (rd_load rfl row25 (cells_pts1 (by repeat (first | with_reducible exact Sel.head | apply Sel.tail)) rfl)) ?_
  refine any_take (i := 6) (by kernel_rfl) rfl rfl (by decide) (fun _ _ _ _ _ h => h) rfl (rd_len Try.underlying25 rfl) ?_
  refine any_run (j := 1) (by kernel_rfl) rfl ?_
  refine run_spec rfl (by decide) (by kernel_rfl) rfl (by repeat (first | exact Pick.nil | apply Pick.cons (by repeat (first | with_reducible exact Sel.head | apply Sel.tail)))) (len_spec _) ?_
  rintro ⟨⟩ -
  try simp only [List.cons_append, List.nil_append]
  refine run_nil ?_
  refine St.then_n ?_
  refine any_next (by apply Beh.keep (i := 6) (by kernel_rfl) rfl (rd_len Try.underlying25 rfl); (apply Beh.keep (i := 5) (by kernel_rfl) rfl (rd_load rfl row25 (cells_pts1 (by repeat (first | with_reducible exact Sel.head | apply Sel.tail)) rfl))); (first | apply Beh.keep (i := 4) (by kernel_rfl) rfl (rd_fieldAddr0 rfl fld46_0) | apply Beh.keep (i := 4) (by kernel_rfl) rfl (rd_fieldAddr rfl fld46_0)); apply Beh.keep (i := 3) (by kernel_rfl) rfl (rd_nilCheck rfl); (apply Beh.keep (i := 2) (by kernel_rfl) rfl (rd_load rfl row44 (cells_pts1 (by repeat (first | with_reducible exact Sel.head | apply Sel.tail)) rfl))); apply Beh.drop (i := 0) (by kernel_rfl); exact .nil) ?_
  refine any_take (i := 7) (by kernel_rfl) rfl rfl (by decide) (fun _ _ _ _ _ h => h) rfl ((rd_ne rfl rfl).eq (show _ = Value.bool false by rw [hml]; simp)) ?_
  refine any_take (i := 8) (by kernel_rfl) rfl rfl (by decide) (fun _ _ _ _ _ h => h) rfl (rd_move rfl) ?_
  first | refine any_skip (i := 9) (by kernel_rfl) rfl rfl (by decide) (fun _ _ _ _ _ h => h) rfl ?_ | refine any_take (i := 9) (by kernel_rfl) rfl rfl (by decide) (fun _ _ _ _ _ h => h) rfl (rd_load_row (vs := [_, _, _]) rfl row35 rfl (cells_pts (by repeat (first | with_reducible exact Sel.head | apply Sel.tail)) rfl)) ?_
  first | refine any_skip (i := 11) (by kernel_rfl) rfl rfl (by decide) (fun _ _ _ _ _ h => h) rfl ?_ | refine any_take (i := 11) (by kernel_rfl) rfl rfl (by decide) (fun _ _ _ _ _ h => h) rfl (rd_load_row (vs := [_, _, _]) rfl row32 rfl (cells_pts (by repeat (first | with_reducible exact Sel.head | apply Sel.tail)) rfl)) ?_
  refine any_run (j := 10) (by kernel_rfl) rfl ?_
  refine St.ref_shut (M := M) (D := D) (A := A) (cap := cap) (by repeat (first | exact Pick.nil | apply Pick.cons (by repeat (first | with_reducible exact Sel.head | apply Sel.tail)))) ?_
  first
    | (refine run_skip rfl rfl ?_)
    | (refine run_spec rfl (by decide) (by kernel_rfl) rfl (by repeat (first | exact Pick.nil | apply Pick.cons (by repeat (first | with_reducible exact Sel.head | apply Sel.tail)))) (as_spec _ _ _ _ _ _) ?_
       rintro ⟨⟩ -
       try simp only [List.cons_append, List.nil_append])
  refine run_nil ?_
  refine St.then_n ?_
  refine any_next (by try (apply Beh.keep (i := 11) (by kernel_rfl) rfl (rd_load_row (vs := [_, _, _]) rfl row32 rfl (cells_pts (by repeat (first | with_reducible exact Sel.head | apply Sel.tail)) rfl))); try (apply Beh.drop (i := 9) (by kernel_rfl)); apply Beh.drop (i := 8) (by kernel_rfl); apply Beh.drop (i := 7) (by kernel_rfl); apply Beh.drop (i := 6) (by kernel_rfl); apply Beh.drop (i := 5) (by kernel_rfl); apply Beh.drop (i := 4) (by kernel_rfl); apply Beh.drop (i := 3) (by kernel_rfl); apply Beh.drop (i := 2) (by kernel_rfl); exact .nil) ?_
  refine any_run (j := 12) (by kernel_rfl) rfl ?_
  first
    | (refine run_skip rfl rfl ?_)
    | (refine run_spec rfl (by decide) (by kernel_rfl) rfl (by repeat (first | exact Pick.nil | apply Pick.cons (by repeat (first | with_reducible exact Sel.head | apply Sel.tail)))) (same_spec _ x.f x.t _ _ x.d (Vw.sep vw_bytes (by repeat (first | with_reducible exact Sel.head | apply Sel.tail))) (Vw.sep (vw_ref hxv) (by repeat (first | with_reducible exact Sel.head | apply Sel.tail)))) ?_
       rintro ⟨⟩ -
       try simp only [List.cons_append, List.nil_append])
  refine run_nil ?_
  refine St.then_n ?_
  refine any_next (by try (apply Beh.drop (i := 11) (by kernel_rfl)); exact .nil) ?_
  first | refine any_skip (i := 13) (by kernel_rfl) rfl rfl (by decide) (fun _ _ _ _ _ h => h) rfl ?_ | refine any_take (i := 13) (by kernel_rfl) rfl rfl (by decide) (fun _ _ _ _ _ h => h) rfl (rd_not rfl) ?_
  first | refine any_take (i := 14) (by kernel_rfl) rfl rfl (by decide) (fun _ _ _ _ _ h => h) rfl (rd_pick_t rfl rfl) ?_ | refine any_take (i := 14) (by kernel_rfl) rfl rfl (by decide) (fun _ _ _ _ _ h => h) rfl (rd_pick_f rfl rfl) ?_
  refine any_take (i := 15) (by kernel_rfl) rfl rfl (by decide) (fun _ _ _ _ _ h => h) rfl (rd_move rfl) ?_
  first | refine any_skip (i := 16) (by kernel_rfl) rfl rfl (by decide) (fun _ _ _ _ _ h => h) rfl ?_ | refine any_take (i := 16) (by kernel_rfl) rfl rfl (by decide) (fun _ _ _ _ _ h => h) rfl (rd_move rfl) ?_
  first | refine any_skip (i := 17) (by kernel_rfl) rfl rfl (by decide) (fun _ _ _ _ _ h => h) rfl ?_ | refine any_take (i := 17) (by kernel_rfl) rfl rfl (by decide) (fun _ _ _ _ _ h => h) rfl (rd_move rfl) ?_
  first | refine any_skip (i := 18) (by kernel_rfl) rfl rfl (by decide) (fun _ _ _ _ _ h => h) rfl ?_ | refine any_take (i := 18) (by kernel_rfl) rfl rfl (by decide) (fun _ _ _ _ _ h => h) rfl ((rd_ne rfl rfl).eq (show _ = Value.bool false by simp)) ?_
  first | refine any_take (i := 19) (by kernel_rfl) rfl rfl (by decide) (fun _ _ _ _ _ h => h) rfl (rd_pick_t rfl rfl) ?_ | refine any_take (i := 19) (by kernel_rfl) rfl rfl (by decide) (fun _ _ _ _ _ h => h) rfl (rd_pick_f rfl rfl) ?_
  refine any_take (i := 20) (by kernel_rfl) rfl rfl (by decide) (fun _ _ _ _ _ h => h) rfl (rd_move rfl) ?_
  first | refine any_skip (i := 21) (by kernel_rfl) rfl rfl (by decide) (fun _ _ _ _ _ h => h) rfl ?_ | refine any_take (i := 21) (by kernel_rfl) rfl rfl (by decide) (fun _ _ _ _ _ h => h) rfl (rd_move rfl) ?_
  first | refine any_skip (i := 22) (by kernel_rfl) rfl rfl (by decide) (fun _ _ _ _ _ h => h) rfl ?_ | refine any_take (i := 22) (by kernel_rfl) rfl rfl (by decide) (fun _ _ _ _ _ h => h) rfl (rd_move rfl) ?_
  first | refine any_skip (i := 24) (by kernel_rfl) rfl rfl (by decide) (fun _ _ _ _ _ h => h) rfl ?_ | refine any_take (i := 24) (by kernel_rfl) rfl rfl (by decide) (fun _ _ _ _ _ h => h) rfl (rd_load rfl row44 (cells_pts1 (by repeat (first | with_reducible exact Sel.head | apply Sel.tail)) rfl)) ?_
  first | refine any_skip (i := 25) (by kernel_rfl) rfl rfl (by decide) (fun _ _ _ _ _ h => h) rfl ?_ | refine any_take (i := 25) (by kernel_rfl) rfl rfl (by decide) (fun _ _ _ _ _ h => h) rfl (rd_move rfl) ?_
  refine any_run (j := 23) (by kernel_rfl) rfl ?_
  first
    | (refine run_skip rfl rfl ?_)
    | (refine run_spec rfl (by decide) (by kernel_rfl) rfl (by repeat (first | exact Pick.nil | apply Pick.cons (by repeat (first | with_reducible exact Sel.head | apply Sel.tail)))) (to_spec _ k) ?_
       rintro ⟨⟩ -
       try simp only [List.cons_append, List.nil_append])
  refine run_nil ?_
  refine St.then_n ?_
  refine any_next (by try (apply Beh.keep (i := 25) (by kernel_rfl) rfl (rd_move rfl)); try (apply Beh.keep (i := 24) (by kernel_rfl) rfl (rd_load rfl row44 (cells_pts1 (by repeat (first | with_reducible exact Sel.head | apply Sel.tail)) rfl))); try (apply Beh.drop (i := 22) (by kernel_rfl)); try (apply Beh.drop (i := 21) (by kernel_rfl)); apply Beh.drop (i := 20) (by kernel_rfl); apply Beh.drop (i := 19) (by kernel_rfl); try (apply Beh.drop (i := 18) (by kernel_rfl)); try (apply Beh.drop (i := 17) (by kernel_rfl)); try (apply Beh.drop (i := 16) (by kernel_rfl)); apply Beh.drop (i := 15) (by kernel_rfl); apply Beh.drop (i := 14) (by kernel_rfl); try (apply Beh.drop (i := 13) (by kernel_rfl)); exact .nil) ?_
  refine any_run (j := 26) (by kernel_rfl) rfl ?_
  first
    | (refine run_skip rfl rfl ?_)
    | (refine run_spec rfl (by decide) (by kernel_rfl) rfl (by repeat (first | exact Pick.nil | apply Pick.cons (by repeat (first | with_reducible exact Sel.head | apply Sel.tail)))) (rto_spec _ L k hI) ?_
       rintro ⟨⟩ -
       try simp only [List.cons_append, List.nil_append])
  refine run_nil ?_
  refine St.then_n ?_
  refine any_next (by try (apply Beh.drop (i := 25) (by kernel_rfl)); try (apply Beh.drop (i := 24) (by kernel_rfl)); exact .nil) ?_
  first | refine any_skip (i := 27) (by kernel_rfl) rfl rfl (by decide) (fun _ _ _ _ _ h => h) rfl ?_ | refine any_take (i := 27) (by kernel_rfl) rfl rfl (by decide) (fun _ _ _ _ _ h => h) rfl ((rd_ne rfl rfl).eq (show _ = Value.bool false by simp)) ?_
  first | refine any_take (i := 28) (by kernel_rfl) rfl rfl (by decide) (fun _ _ _ _ _ h => h) rfl (rd_pick_t rfl rfl) ?_ | refine any_take (i := 28) (by kernel_rfl) rfl rfl (by decide) (fun _ _ _ _ _ h => h) rfl (rd_pick_f rfl rfl) ?_
  refine any_take (i := 29) (by kernel_rfl) rfl rfl (by decide) (fun _ _ _ _ _ h => h) rfl (rd_move rfl) ?_
  first | refine any_skip (i := 30) (by kernel_rfl) rfl rfl (by decide) (fun _ _ _ _ _ h => h) rfl ?_ | refine any_take (i := 30) (by kernel_rfl) rfl rfl (by decide) (fun _ _ _ _ _ h => h) rfl (rd_move rfl) ?_
  first | refine any_skip (i := 32) (by kernel_rfl) rfl rfl (by decide) (fun _ _ _ _ _ h => h) rfl ?_ | refine any_take (i := 32) (by kernel_rfl) rfl rfl (by decide) (fun _ _ _ _ _ h => h) rfl (rd_load rfl row44 (cells_pts1 (by repeat (first | with_reducible exact Sel.head | apply Sel.tail)) rfl)) ?_
  refine any_run (j := 31) (by kernel_rfl) rfl ?_
  first
    | (refine run_skip rfl rfl ?_)
    | (refine run_spec rfl (by decide) (by kernel_rfl) rfl (by repeat (first | exact Pick.nil | apply Pick.cons (by repeat (first | with_reducible exact Sel.head | apply Sel.tail)))) (to_spec _ (-1)) ?_
       rintro ⟨⟩ -
       try simp only [List.cons_append, List.nil_append])
  refine run_nil ?_
  refine St.then_n ?_
  refine any_next (by try (apply Beh.keep (i := 32) (by kernel_rfl) rfl (rd_load rfl row44 (cells_pts1 (by repeat (first | with_reducible exact Sel.head | apply Sel.tail)) rfl))); try (apply Beh.drop (i := 30) (by kernel_rfl)); apply Beh.drop (i := 29) (by kernel_rfl); apply Beh.drop (i := 28) (by kernel_rfl); try (apply Beh.drop (i := 27) (by kernel_rfl)); exact .nil) ?_
  refine any_run (j := 33) (by kernel_rfl) rfl ?_
  first
    | (refine run_skip rfl rfl ?_)
    | (refine run_spec rfl (by decide) (by kernel_rfl) rfl (by repeat (first | exact Pick.nil | apply Pick.cons (by repeat (first | with_reducible exact Sel.head | apply Sel.tail)))) (rto_spec _ L (-1) hI) ?_
       rintro ⟨⟩ -
       try simp only [List.cons_append, List.nil_append])
  refine run_nil ?_
  refine St.then_n ?_
  refine any_next (by try (apply Beh.drop (i := 32) (by kernel_rfl)); exact .nil) ?_
  first | refine any_skip (i := 34) (by kernel_rfl) rfl rfl (by decide) (fun _ _ _ _ _ h => h) rfl ?_ | refine any_take (i := 34) (by kernel_rfl) rfl rfl (by decide) (fun _ _ _ _ _ h => h) rfl ((rd_ne rfl rfl).eq (show _ = Value.bool false by simp)) ?_
  first | refine any_take (i := 35) (by kernel_rfl) rfl rfl (by decide) (fun _ _ _ _ _ h => h) rfl (rd_pick_t rfl rfl) ?_ | refine any_take (i := 35) (by kernel_rfl) rfl rfl (by decide) (fun _ _ _ _ _ h => h) rfl (rd_pick_f rfl rfl) ?_
  refine any_nil (by kernel_rfl) ?_
  refine St.keep (β' := [(0, _), (4, _), (6, _), (7, _), (61, _)]) ⟨rfl, rfl, rfl, rfl, rfl, trivial⟩ ?_
  refine St.then_n ?_
  refine do_cond_f rfl ?_
  refine do_skip ?_
  refine St.then_n ?_
  refine do_seq ?_
  refine do_region ?_
  first | refine run_read rfl (by decide) (fun _ => nofun) (rd_fieldAddr0 rfl fld35_2) ?_ | refine run_read rfl (by decide) (fun _ => nofun) (rd_fieldAddr rfl fld35_2) ?_
  refine run_read rfl (by decide) (fun _ => nofun) (rd_load rfl row28 (cells_pts1 (by repeat (first | with_reducible exact Sel.head | apply Sel.tail)) rfl)) ?_
  refine run_spec rfl (by decide) (by kernel_rfl) rfl (by repeat (first | exact Pick.nil | apply Pick.cons (by repeat (first | with_reducible exact Sel.head | apply Sel.tail)))) (spoil_spec _ _ x.d (by omega)) ?_
  rintro ⟨⟩ -
  try simp only [List.cons_append, List.nil_append]
  refine run_nil ?_
  refine St.keep (β' := [(0, _), (4, _), (6, _)]) ⟨rfl, rfl, rfl, trivial⟩ ?_
  refine St.then_n ?_
  refine do_seq ?_
  refine do_seq ?_
  refine do_region ?_
  refine St.sel (P := refM r M D) (by repeat (first | with_reducible exact Sel.head | apply Sel.tail)) (St.ref_open fun A cap => ?_)
  refine run_read rfl (by decide) (fun _ => nofun) (rd_load rfl row44 (cells_pts1 (by repeat (first | with_reducible exact Sel.head | apply Sel.tail)) rfl)) ?_
  refine run_read rfl (by decide) (fun _ => nofun) (rd_nilCheck rfl) ?_
  first | refine run_read rfl (by decide) (fun _ => nofun) (rd_fieldAddr0 rfl fld46_0) ?_ | refine run_read rfl (by decide) (fun _ => nofun) (rd_fieldAddr rfl fld46_0) ?_
  refine run_read rfl (by decide) (fun _ => nofun) (rd_load rfl row25 (cells_pts1 (by repeat (first | with_reducible exact Sel.head | apply Sel.tail)) rfl)) ?_
  refine run_read rfl (by decide) (fun _ => nofun) (rd_len Try.underlying25 rfl) ?_
  refine run_read rfl (by decide) (fun _ => nofun) (rd_gt rfl rfl) ?_
  refine run_nil ?_
  refine St.keep (β' := [(0, _), (4, _), (6, _), (70, _)]) ⟨rfl, rfl, rfl, rfl, trivial⟩ ?_
  refine St.then_n ?_
  first | refine do_condp rfl (fun h70 => ?_) (fun h70 => ?_) | refine do_cond rfl (fun h70 => ?_) (fun h70 => ?_)
  · refine do_seq ?_
    refine do_region ?_
    refine run_store rfl rfl rfl (by repeat (first | with_reducible exact Sel.head | apply Sel.tail)) row4 rfl rfl (by simp only [List.set_cons_succ, List.set_cons_zero]; exact rfl) ?_
    refine run_nil ?_
    refine St.then_n ?_
    refine do_ret ?_
    refine St.then_r ?_
    refine do_retM1 [] rfl (by repeat (first | exact Pick.nil | apply Pick.cons (by repeat (first | with_reducible exact Sel.head | apply Sel.tail)))) Try.results19 (res_cell rfl row4 (cells_pts1 (by repeat (first | with_reducible exact Sel.head | apply Sel.tail)) rfl)) ?_
    intro w hw
    exact ⟨(), trivial, rfl, (hw.sub (Δ := [pts r 46 [.slice A M.length cap], own (.slice A M.length cap) 32 3 M.length (cellsM M), poolP D, netP p L, F]) (by repeat (first | exact Pick.nil | apply Pick.cons (by repeat (first | with_reducible exact Sel.head | apply Sel.tail))))).ref_close.swap_⟩
  · refine do_skip ?_
    refine St.then_n ?_
    refine do_seq ?_
    refine do_region ?_
    refine St.ref_shut (M := M) (D := D) (A := A) (cap := cap) (by repeat (first | exact Pick.nil | apply Pick.cons (by repeat (first | with_reducible exact Sel.head | apply Sel.tail)))) ?_
    refine run_read rfl (by decide) (fun _ => nofun) (rd_move rfl) ?_
    refine run_spec rfl (by decide) (by kernel_rfl) rfl (by repeat (first | exact Pick.nil | apply Pick.cons (by repeat (first | with_reducible exact Sel.head | apply Sel.tail)))) (all_spec _ p L) ?_
    rintro ⟨c, A2, cap2, M2⟩ hM2
    dsimp only at hM2 ⊢
    try simp only [List.cons_append, List.nil_append]
    refine run_read rfl (by decide) (fun _ => nofun) (rd_assign rfl) ?_
    refine run_nil ?_
    refine St.keep (β' := [(4, _), (6, _), (11, _)]) ⟨rfl, rfl, rfl, trivial⟩ ?_
    refine St.then_n ?_
    refine do_seq ?_
    refine do_seq ?_
    refine do_region ?_
    refine run_read rfl (by decide) (fun _ => nofun) (rd_move rfl) ?_
    refine run_read rfl (by decide) (fun _ => nofun) (rd_fn_eq_nil Try.underlying50 rfl rfl) ?_
    refine run_nil ?_
    refine St.then_n ?_
    refine do_cond_f rfl ?_
    refine do_skip ?_
    refine St.then_n ?_
    refine do_seq ?_
    refine do_region ?_
    refine run_alloc rfl (by decide) zero3 (fun b12 => ?_)
    refine run_store rfl rfl rfl (by repeat (first | with_reducible exact Sel.head | apply Sel.tail)) row3 rfl rfl (by simp only [List.set_cons_succ, List.set_cons_zero]; exact rfl) ?_
    refine run_nil ?_
    refine St.then_n ?_
    refine do_seq ?_
    refine do_seq ?_
    refine do_region ?_
    refine run_read rfl (by decide) (fun _ => nofun) (rd_move rfl) ?_
    refine run_nil ?_
    refine St.then_n ?_
    refine do_block ?_
    refine St.sel (P := pts b12 3 [.int .i64 0]) (by repeat (first | with_reducible exact Sel.head | apply Sel.tail)) (St.ent (Q := pts b12 3 [.int .i64 ((0 : Nat) : Int)]) (fun _ h => h) ?_)
    refine St.pack (Ps := [pts c 54 [.slice A2 M2.length cap2], own (.slice A2 M2.length cap2) 35 3 M2.length (cellsM M2), netV p L M2]) (by repeat (first | exact Pick.nil | apply Pick.cons (by repeat (first | with_reducible exact Sel.head | apply Sel.tail)))) ?_
    refine do_range rfl (by kernel_rfl) (fun i => [pts b12 3 [.int .i64 i], pts b4 44 [.pointer (some ⟨r, 0, none⟩)], pts b6 4 [.bool false], refM r M D]) (fun _ => [fun _ => False])
      (all_iter c p A2 cap2 L M2 hM2 (by rw [← List.length_map (f := RLet.L), hM2]; omega) (fun x hx => by have := hlen x.L (hM2 ▸ List.mem_map_of_mem hx); exact this)) (by repeat (first | exact Pick.nil | apply Pick.cons (by repeat (first | with_reducible exact Sel.head | apply Sel.tail))))
      (fun i vs (y : Nat × Letter × Value) => L[i]? = some y.2.1 ∧ vs = [.agg #[.int .i64 y.2.1.f, .int .i64 y.2.1.t, y.2.2]])
      (fun i vs y => [(4, .pointer (some ⟨b4, 0, none⟩)), (6, .pointer (some ⟨b6, 0, none⟩)), (12, .pointer (some ⟨b12, 0, none⟩)), (13, .pointer (some ⟨y.1, 0, none⟩))])
      (fun i vs y => [pts y.1 35 [.int .i64 y.2.1.f, .int .i64 y.2.1.t, y.2.2], bytesO y.2.2 y.2.1.d, pts b12 3 [.int .i64 i], pts b4 44 [.pointer (some ⟨r, 0, none⟩)], pts b6 4 [.bool false], refM r M D, allIT c p A2 cap2 L M2])
      (fun _ _ ⟨_, _, _, h⟩ => by rw [h]; rfl) (by decide) ?_ ?_ (fun Dm1 i hi => ?_) (fun _ _ => St.false (.tail .head))
    · rintro l FR i vs ⟨x1, v1, hx1, rfl⟩ hL
      simp only [List.cons_append, List.nil_append]
      refine St.sel (P := allR L i [.agg #[.int .i64 x1.f, .int .i64 x1.t, v1]]) (by repeat (first | with_reducible exact Sel.head | apply Sel.tail)) (St.ex fun x2 => St.ex fun v2 => St.pure fun h2 => ?_)
      obtain ⟨h2, h3⟩ := h2
      obtain rfl : x1 = x2 := Option.some.inj (hx1.symm.trans h2)
      obtain rfl : v1 = v2 := by simpa using h3
      refine St.vw vw_bytes .head (fun A1 c1 hv _ _ _ => ?_)
      subst hv
      refine do_region ?_
      refine run_alloc rfl (by decide) zero35 (fun b13 => ?_)
      first | refine run_store_all rfl rfl rfl (by repeat (first | with_reducible exact Sel.head | apply Sel.tail)) row35 rfl rfl rfl ?_ | refine run_store_mid rfl rfl rfl (by repeat (first | with_reducible exact Sel.head | apply Sel.tail)) row35 rfl rfl rfl (by simp only [setL, List.length_cons, List.length_nil, Nat.reduceAdd, List.take_succ_cons, List.take_zero, List.drop_succ_cons, List.drop_zero, List.cons_append, List.nil_append, List.append_nil]; exact rfl) ?_
      refine run_nil ?_
      refine St.keep (β' := [(4, _), (6, _), (12, _), (13, _)]) ⟨rfl, rfl, rfl, rfl, trivial⟩ ?_
      refine St.then_n ?_
      exact fun a w hw hb => ⟨(b13, x1, .slice A1 x1.d.length c1), ⟨hx1, rfl⟩, hw.sub (by repeat (first | exact Pick.nil | apply Pick.cons (by repeat (first | with_reducible exact Sel.head | apply Sel.tail)))), hb.sub ⟨rfl, rfl, rfl, rfl, trivial⟩⟩
    · rintro l FR i vs ⟨b13, x1, v1⟩ - ⟨hx1, -⟩ hL
      dsimp only at hx1 ⊢
      simp only [List.cons_append, List.nil_append]
      obtain ⟨y, hy, hyx⟩ := rletK_at hI i x1 hx1
      subst hyx
      have hil := (List.getElem?_eq_some_iff.1 hy).1
      have hc := cellsM_at M i y hy
      refine St.sel (P := refM r M D) (by repeat (first | with_reducible exact Sel.head | apply Sel.tail)) (St.ref_open fun A cap => ?_)
      refine St.sel (P := own (.slice A M.length cap) 32 3 M.length (cellsM M)) (by repeat (first | with_reducible exact Sel.head | apply Sel.tail)) (St.own_some (by omega) (fun g c2 hg h3 h4 h5 => ?_))
      cases hg
      refine St.sel (P := bytesO v1 y.L.d) (by repeat (first | with_reducible exact Sel.head | apply Sel.tail)) ?_
      refine St.vw vw_bytes .head (fun A1 c1 hv _ _ _ => ?_)
      subst hv
      refine do_block ?_
      refine do_seq ?_
      refine do_seq ?_
      refine do_draw [[6, 7, 8, 9, 10, 11, 12, 13, 14, 15, 16, 17, 18, 19], [2, 3, 4, 5, 6, 7, 8, 9, 10, 11, 12, 13, 14, 15, 16, 17, 18, 19], [3, 4, 5, 6, 7, 8, 9, 10, 11, 12, 13, 14, 15, 16, 17, 18, 19], [4, 5, 6, 7, 8, 9, 10, 11, 12, 13, 14, 15, 16, 17, 18, 19], [5, 6, 7, 8, 9, 10, 11, 12, 13, 14, 15, 16, 17, 18, 19], [6, 7, 8, 9, 10, 11, 12, 13, 14, 15, 16, 17, 18, 19], [7, 8, 9, 10, 11, 12, 13, 14, 15, 16, 17, 18, 19], [8, 9, 10, 11, 12, 13, 14, 15, 16, 17, 18, 19], [9, 17, 18, 19], [17, 18, 19], [11, 12, 13, 15, 16, 17, 18, 19], [12, 13, 15, 16, 17, 18, 19], [13, 15, 16, 17, 18, 19], [15, 16, 17, 18, 19], [15, 16, 17, 18, 19], [16, 17, 18, 19], [17, 18, 19], [18, 19], [19], []] (by kernel_rfl) rfl ?_
      refine any_take (i := 0) (by kernel_rfl) rfl rfl (by decide) (fun _ _ _ _ _ h => h) rfl (rd_load rfl row3 (cells_pts1 (by repeat (first | with_reducible exact Sel.head | apply Sel.tail)) rfl)) ?_
      refine any_take (i := 1) (by kernel_rfl) rfl rfl (by decide) (fun _ _ _ _ _ h => h) rfl (rd_load rfl row44 (cells_pts1 (by repeat (first | with_reducible exact Sel.head | apply Sel.tail)) rfl)) ?_
      refine any_take (i := 2) (by kernel_rfl) rfl rfl (by decide) (fun _ _ _ _ _ h => h) rfl (rd_nilCheck rfl) ?_
      first | refine any_take (i := 3) (by kernel_rfl) rfl rfl (by decide) (fun _ _ _ _ _ h => h) rfl (rd_fieldAddr0 rfl fld46_0) ?_ | refine any_take (i := 3) (by kernel_rfl) rfl rfl (by decide) (fun _ _ _ _ _ h => h) rfl (rd_fieldAddr rfl fld46_0) ?_
      refine any_take (i := 4) (by kernel_rfl) rfl rfl (by decide) (fun _ _ _ _ _ h => h) rfl (rd_load rfl row25 (cells_pts1 (by repeat (first | with_reducible exact Sel.head | apply Sel.tail)) rfl)) ?_
      refine any_take (i := 5) (by kernel_rfl) rfl rfl (by decide) (fun _ _ _ _ _ h => h) rfl (rd_len Try.underlying25 rfl) ?_
      refine any_take (i := 6) (by kernel_rfl) rfl rfl (by decide) (fun _ _ _ _ _ h => h) rfl ((rd_ge rfl rfl).eq (show _ = Value.bool false by simp; omega)) ?_
      refine any_take (i := 7) (by kernel_rfl) rfl rfl (by decide) (fun _ _ _ _ _ h => h) rfl (rd_move rfl) ?_
      first | refine any_skip (i := 8) (by kernel_rfl) rfl rfl (by decide) (fun _ _ _ _ _ h => h) rfl ?_ | refine any_take (i := 8) (by kernel_rfl) rfl rfl (by decide) (fun _ _ _ _ _ h => h) rfl (rd_load_row (vs := [_, _, _]) rfl row35 rfl (cells_pts (by repeat (first | with_reducible exact Sel.head | apply Sel.tail)) rfl)) ?_
      first | refine any_skip (i := 10) (by kernel_rfl) rfl rfl (by decide) (fun _ _ _ _ _ h => h) rfl ?_ | refine any_take (i := 10) (by kernel_rfl) rfl rfl (by decide) (fun _ _ _ _ _ h => h) rfl (rd_load rfl row44 (cells_pts1 (by repeat (first | with_reducible exact Sel.head | apply Sel.tail)) rfl)) ?_
      first | refine any_skip (i := 11) (by kernel_rfl) rfl rfl (by decide) (fun _ _ _ _ _ h => h) rfl ?_ | refine any_take (i := 11) (by kernel_rfl) rfl rfl (by decide) (fun _ _ _ _ _ h => h) rfl (rd_nilCheck rfl) ?_
      first | refine any_skip (i := 12) (by kernel_rfl) rfl rfl (by decide) (fun _ _ _ _ _ h => h) rfl ?_ | refine any_take (i := 12) (by kernel_rfl) rfl rfl (by decide) (fun _ _ _ _ _ h => h) rfl (rd_fieldAddr0 rfl fld46_0) ?_ | refine any_take (i := 12) (by kernel_rfl) rfl rfl (by decide) (fun _ _ _ _ _ h => h) rfl (rd_fieldAddr rfl fld46_0) ?_
      first | refine any_skip (i := 13) (by kernel_rfl) rfl rfl (by decide) (fun _ _ _ _ _ h => h) rfl ?_ | refine any_take (i := 13) (by kernel_rfl) rfl rfl (by decide) (fun _ _ _ _ _ h => h) rfl (rd_load rfl row25 (cells_pts1 (by repeat (first | with_reducible exact Sel.head | apply Sel.tail)) rfl)) ?_
      first | refine any_skip (i := 14) (by kernel_rfl) rfl rfl (by decide) (fun _ _ _ _ _ h => h) rfl ?_ | refine any_take (i := 14) (by kernel_rfl) rfl rfl (by decide) (fun _ _ _ _ _ h => h) rfl (rd_load rfl row3 (cells_pts1 (by repeat (first | with_reducible exact Sel.head | apply Sel.tail)) rfl)) ?_
      first | refine any_skip (i := 15) (by kernel_rfl) rfl rfl (by decide) (fun _ _ _ _ _ h => h) rfl ?_ | refine any_take (i := 15) (by kernel_rfl) rfl rfl (by decide) (fun _ _ _ _ _ h => h) rfl (rd_indexAddr Try.underlying25 ei32 rfl rfl (by omega) (by omega)) ?_
      first | refine any_skip (i := 16) (by kernel_rfl) rfl rfl (by decide) (fun _ _ _ _ _ h => h) rfl ?_ | refine any_take (i := 16) (by kernel_rfl) rfl rfl (by decide) (fun _ _ _ _ _ h => h) rfl (rd_load_row rfl row32 rfl (Vw.cells (k := 3) (cs := cellsM M) (vs := y.C) vw_own (by repeat (first | with_reducible exact Sel.head | apply Sel.tail)) (by omega) hc)) ?_
      refine any_run (j := 9) (by kernel_rfl) rfl ?_
      first
        | (refine run_skip rfl rfl ?_)
        | (refine run_spec rfl (by decide) (by kernel_rfl) rfl (by repeat (first | exact Pick.nil | apply Pick.cons (by repeat (first | with_reducible exact Sel.head | apply Sel.tail)))) (as_spec _ _ _ _ _ _) ?_
           rintro ⟨⟩ -
           try simp only [List.cons_append, List.nil_append])
      refine run_nil ?_
      refine St.then_n ?_
      refine any_next (by try (apply Beh.keep (i := 16) (by kernel_rfl) rfl (rd_load_row rfl row32 rfl (Vw.cells (k := 3) (cs := cellsM M) (vs := y.C) vw_own (by repeat (first | with_reducible exact Sel.head | apply Sel.tail)) (by omega) hc))); try (apply Beh.keep (i := 15) (by kernel_rfl) rfl (rd_indexAddr Try.underlying25 ei32 rfl rfl (by omega) (by omega))); try (apply Beh.keep (i := 14) (by kernel_rfl) rfl (rd_load rfl row3 (cells_pts1 (by repeat (first | with_reducible exact Sel.head | apply Sel.tail)) rfl))); try (apply Beh.keep (i := 13) (by kernel_rfl) rfl (rd_load rfl row25 (cells_pts1 (by repeat (first | with_reducible exact Sel.head | apply Sel.tail)) rfl))); try (first | apply Beh.keep (i := 12) (by kernel_rfl) rfl (rd_fieldAddr0 rfl fld46_0) | apply Beh.keep (i := 12) (by kernel_rfl) rfl (rd_fieldAddr rfl fld46_0)); try (apply Beh.keep (i := 11) (by kernel_rfl) rfl (rd_nilCheck rfl)); try (apply Beh.keep (i := 10) (by kernel_rfl) rfl (rd_load rfl row44 (cells_pts1 (by repeat (first | with_reducible exact Sel.head | apply Sel.tail)) rfl))); try (apply Beh.drop (i := 8) (by kernel_rfl)); apply Beh.drop (i := 7) (by kernel_rfl); apply Beh.drop (i := 6) (by kernel_rfl); apply Beh.drop (i := 5) (by kernel_rfl); apply Beh.drop (i := 4) (by kernel_rfl); apply Beh.drop (i := 3) (by kernel_rfl); apply Beh.drop (i := 2) (by kernel_rfl); apply Beh.drop (i := 1) (by kernel_rfl); apply Beh.drop (i := 0) (by kernel_rfl); exact .nil) ?_
      refine any_run (j := 17) (by kernel_rfl) rfl ?_
      first
        | (refine run_skip rfl rfl ?_)
        | (refine run_spec rfl (by decide) (by kernel_rfl) rfl (by repeat (first | exact Pick.nil | apply Pick.cons (by repeat (first | with_reducible exact Sel.head | apply Sel.tail)))) (same_spec _ y.f y.t _ _ y.d (Vw.sep vw_bytes (by repeat (first | with_reducible exact Sel.head | apply Sel.tail))) (Vw.sep (vw_pool (hI.mem y (List.mem_of_getElem? hy))) (by repeat (first | with_reducible exact Sel.head | apply Sel.tail)))) ?_
           rintro ⟨⟩ -
           try simp only [List.cons_append, List.nil_append])
      refine run_nil ?_
      refine St.then_n ?_
      refine any_next (by try (apply Beh.drop (i := 16) (by kernel_rfl)); try (apply Beh.drop (i := 15) (by kernel_rfl)); try (apply Beh.drop (i := 14) (by kernel_rfl)); try (apply Beh.drop (i := 13) (by kernel_rfl)); try (apply Beh.drop (i := 12) (by kernel_rfl)); try (apply Beh.drop (i := 11) (by kernel_rfl)); try (apply Beh.drop (i := 10) (by kernel_rfl)); exact .nil) ?_
      first | refine any_skip (i := 18) (by kernel_rfl) rfl rfl (by decide) (fun _ _ _ _ _ h => h) rfl ?_ | refine any_take (i := 18) (by kernel_rfl) rfl rfl (by decide) (fun _ _ _ _ _ h => h) rfl (rd_not rfl) ?_
      first | refine any_take (i := 19) (by kernel_rfl) rfl rfl (by decide) (fun _ _ _ _ _ h => h) rfl (rd_pick_t rfl rfl) ?_ | refine any_take (i := 19) (by kernel_rfl) rfl rfl (by decide) (fun _ _ _ _ _ h => h) rfl (rd_pick_f rfl rfl) ?_
      refine any_nil (by kernel_rfl) ?_
      refine St.keep (β' := [(6, _), (12, _), (13, _), (96, _)]) ⟨rfl, rfl, rfl, rfl, trivial⟩ ?_
      refine St.then_n ?_
      refine do_cond_f rfl ?_
      refine do_skip ?_
      refine St.then_n ?_
      refine do_seq ?_
      refine do_region ?_
      first | refine run_read rfl (by decide) (fun _ => nofun) (rd_fieldAddr0 rfl fld35_2) ?_ | refine run_read rfl (by decide) (fun _ => nofun) (rd_fieldAddr rfl fld35_2) ?_
      refine run_read rfl (by decide) (fun _ => nofun) (rd_load rfl row28 (cells_pts1 (by repeat (first | with_reducible exact Sel.head | apply Sel.tail)) rfl)) ?_
      refine run_spec rfl (by decide) (by kernel_rfl) rfl (by repeat (first | exact Pick.nil | apply Pick.cons (by repeat (first | with_reducible exact Sel.head | apply Sel.tail)))) (spoil_spec _ _ y.d (by have := hI.len y (List.mem_of_getElem? hy); omega)) ?_
      rintro ⟨⟩ -
      try simp only [List.cons_append, List.nil_append]
      refine run_nil ?_
      refine St.keep (β' := [(6, _), (12, _)]) ⟨rfl, rfl, trivial⟩ ?_
      refine St.then_n ?_
      refine do_region ?_
      refine run_read rfl (by decide) (fun _ => nofun) (rd_load rfl row3 (cells_pts1 (by repeat (first | with_reducible exact Sel.head | apply Sel.tail)) rfl)) ?_
      first | refine run_read rfl (by decide) (fun _ => nofun) ((rd_add rfl rfl).eq (congrArg (Value.int .i64) (IntWalk.i64_in _ (by omega)))) ?_ | refine run_read rfl (by decide) (fun _ => nofun) (rd_add rfl rfl) ?_
      refine run_store rfl rfl rfl (by repeat (first | with_reducible exact Sel.head | apply Sel.tail)) row3 rfl rfl (by simp only [List.set_cons_succ, List.set_cons_zero]; exact rfl) ?_
      refine run_nil ?_
      refine St.blk_n ?_
      refine St.ref_shut (M := M) (D := D) (A := some ⟨g, 0, none⟩) (cap := cap) (by repeat (first | exact Pick.nil | apply Pick.cons (by repeat (first | with_reducible exact Sel.head | apply Sel.tail)))) ?_
      exact fun a w hw _ => (show Holds ω [pts b12 3 [.int .i64 ((i : Int) + 1)], pts b4 44 [.pointer (some ⟨r, 0, none⟩)], pts b6 4 [.bool false], refM r M D, allIT c p A2 cap2 L M2, FR] w from hw.sub (by repeat (first | exact Pick.nil | apply Pick.cons (by repeat (first | with_reducible exact Sel.head | apply Sel.tail)))))
    simp only [List.cons_append, List.nil_append]
    subst hi
    refine St.sel (P := allIT c p A2 cap2 L M2) (by repeat (first | with_reducible exact Sel.head | apply Sel.tail)) (St.flat ?_)
    simp only [List.cons_append, List.nil_append]
    refine St.sel (P := netV p L M2) (by repeat (first | with_reducible exact Sel.head | apply Sel.tail)) (St.ent (Q := netP p L) (fun _ h => h.1) ?_)
    refine St.sel (P := refM r M D) (by repeat (first | with_reducible exact Sel.head | apply Sel.tail)) (St.ref_open fun A cap => ?_)
    refine St.blk_n ?_
    refine St.then_n ?_
    refine do_seq ?_
    refine do_draw [[6, 7], [2, 3, 4, 5, 6, 7], [3, 4, 5, 6, 7], [4, 5, 6, 7], [5, 6, 7], [6, 7], [7], []] (by kernel_rfl) rfl ?_
    refine any_take (i := 0) (by kernel_rfl) rfl rfl (by decide) (fun _ _ _ _ _ h => h) rfl (rd_load rfl row3 (cells_pts1 (by repeat (first | with_reducible exact Sel.head | apply Sel.tail)) rfl)) ?_
    refine any_take (i := 1) (by kernel_rfl) rfl rfl (by decide) (fun _ _ _ _ _ h => h) rfl (rd_load rfl row44 (cells_pts1 (by repeat (first | with_reducible exact Sel.head | apply Sel.tail)) rfl)) ?_
    refine any_take (i := 2) (by kernel_rfl) rfl rfl (by decide) (fun _ _ _ _ _ h => h) rfl (rd_nilCheck rfl) ?_
    first | refine any_take (i := 3) (by kernel_rfl) rfl rfl (by decide) (fun _ _ _ _ _ h => h) rfl (rd_fieldAddr0 rfl fld46_0) ?_ | refine any_take (i := 3) (by kernel_rfl) rfl rfl (by decide) (fun _ _ _ _ _ h => h) rfl (rd_fieldAddr rfl fld46_0) ?_
    refine any_take (i := 4) (by kernel_rfl) rfl rfl (by decide) (fun _ _ _ _ _ h => h) rfl (rd_load rfl row25 (cells_pts1 (by repeat (first | with_reducible exact Sel.head | apply Sel.tail)) rfl)) ?_
    refine any_take (i := 5) (by kernel_rfl) rfl rfl (by decide) (fun _ _ _ _ _ h => h) rfl (rd_len Try.underlying25 rfl) ?_
    refine any_take (i := 6) (by kernel_rfl) rfl rfl (by decide) (fun _ _ _ _ _ h => h) rfl ((rd_eq rfl rfl).eq (show _ = Value.bool true by rw [hml]; simp)) ?_
    refine any_run (j := 7) (by kernel_rfl) rfl ?_
    refine run_store rfl rfl rfl (by repeat (first | with_reducible exact Sel.head | apply Sel.tail)) row4 rfl rfl (by simp only [List.set_cons_succ, List.set_cons_zero]; exact rfl) ?_
    refine run_nil ?_
    refine St.then_n ?_
    refine any_next (by apply Beh.drop (i := 6) (by kernel_rfl); apply Beh.drop (i := 5) (by kernel_rfl); apply Beh.drop (i := 4) (by kernel_rfl); apply Beh.drop (i := 3) (by kernel_rfl); apply Beh.drop (i := 2) (by kernel_rfl); apply Beh.drop (i := 1) (by kernel_rfl); apply Beh.drop (i := 0) (by kernel_rfl); exact .nil) ?_
    refine any_nil (by kernel_rfl) ?_
    refine St.keep (β' := [(6, _)]) ⟨rfl, trivial⟩ ?_
    refine St.then_n ?_
    refine do_ret ?_
    refine do_retM1 [Dm1] rfl (by repeat (first | exact Pick.nil | apply Pick.cons (by repeat (first | with_reducible exact Sel.head | apply Sel.tail)))) Try.results19 (res_cell rfl row4 (cells_pts1 (by repeat (first | with_reducible exact Sel.head | apply Sel.tail)) rfl)) ?_
    intro w hw
    exact ⟨(), trivial, rfl, (hw.sub (Δ := [pts r 46 [.slice A M.length cap], own (.slice A M.length cap) 32 3 M.length (cellsM M), poolP D, netP p L, F]) (by repeat (first | exact Pick.nil | apply Pick.cons (by repeat (first | with_reducible exact Sel.head | apply Sel.tail))))).ref_close.swap_⟩
/-- A script in memory: row by row. -/
abbrev opL (o : NetOp) : List Value := [.int .i64 o.kind, .int .i64 o.from_, .int .i64 o.n, .slice o.A o.B.length o.c]
theorem flat_drop {α : Type} {f : α → List Value} {k : Nat} (hk : ∀ x, (f x).length = k) : ∀ (l : List α) (i : Nat), (l.flatMap f).drop (i * k) = (l.drop i).flatMap f
  | l, 0 => by simp
  | [], i + 1 => by simp
  | x :: l, i + 1 => by
    rw [List.flatMap_cons, List.drop_succ_cons, ← flat_drop hk l i, show (i + 1) * k = (f x).length + i * k by rw [hk, Nat.succ_mul]; omega, ← List.drop_drop, List.drop_left]
theorem flat_at {α : Type} {f : α → List Value} {k : Nat} (hk : ∀ x, (f x).length = k) {l : List α} {i : Nat} {x : α} (h : l[i]? = some x) : ((l.flatMap f).drop (i * k)).take k = f x := by
  rw [flat_drop hk]
  obtain ⟨hi, rfl⟩ := List.getElem?_eq_some_iff.1 h
  rw [List.drop_eq_getElem_cons hi, List.flatMap_cons, List.take_left' (hk _)]
theorem flat_cell {α : Type} {f : α → List Value} {k : Nat} (hk : ∀ x, (f x).length = k) {l : List α} {i j : Nat} {x : α} {u : Value} (h : l[i]? = some x) (hj : j < k) (hu : (f x)[j]? = some u) : (l.flatMap f)[i * k + j]? = some u := by
  have e : (((l.flatMap f).drop (i * k)).take k)[j]? = some u := by rw [flat_at hk h]; exact hu
  rwa [List.getElem?_take, if_pos hj, List.getElem?_drop] at e
theorem ref_new {g : Nat} : ∀ h, pts g 46 [.slice none 0 0] h → refM g [] [] h := fun h hp =>
  ⟨none, 0, h, fun _ => none, Part.le_refl _, (fun _ _ e => by cases e), (fun _ => .inr rfl), hp, fun _ => none, fun _ => none, Part.le_refl _, Part.le_refl _, (fun _ => .inl rfl), own_nil, fun _ => none, fun _ => none, Part.le_refl _, Part.le_refl _, (fun _ => .inl rfl), (fun _ hx => nomatch hx), trivial⟩
theorem netPlays_law (l : List NetOp) (v : Value) (w : World) (G : Nat → Prop) (hv : Sl w G 4 v l.length (l.flatMap opL)) (hB : ∀ o ∈ l, Bs w G o.v o.B ∧ o.B.length ≤ 140737488351232) :
    Calls Try.prog 5 #[v] w fun e w' => e = .returned (.bool true) ∧ Fr nowhere w w' := by
  refine enter (vs := [v]) Try.func5 rfl Try.ntmps5 rfl (Holds.init w) ?_
  simp only [argsB]
  have hV := vw_kept (by decide) hv
  refine St.vw hV .head (fun A c hv h1 h2 _ => ?_)
  subst hv
  have hll : l.length ≤ 9223372036854775807 := by simp only [maxLen] at h2; omega
  refine do_seq ?_
  refine do_region ?_
  refine run_read rfl (by decide) (fun _ => nofun) (rd_assign rfl) ?_
  refine run_nil ?_
  refine St.then_n ?_
  refine do_seq ?_
  refine do_region ?_
  refine run_spec rfl (by decide) (by kernel_rfl) rfl (by repeat (first | exact Pick.nil | apply Pick.cons (by repeat (first | with_reducible exact Sel.head | apply Sel.tail)))) (new_spec _) ?_
  rintro p -
  try simp only [List.cons_append, List.nil_append]
  refine run_read rfl (by decide) (fun _ => nofun) (rd_assign rfl) ?_
  refine run_nil ?_
  refine St.then_n ?_
  refine do_seq ?_
  refine do_seq ?_
  refine do_region ?_
  refine run_read rfl (by decide) (fun _ => nofun) (rd_move rfl) ?_
  refine run_read rfl (by decide) (fun _ => nofun) (rd_ptr_eq_nil Try.underlying23 rfl rfl) ?_
  refine run_nil ?_
  refine St.then_n ?_
  refine do_cond_f rfl ?_
  refine do_skip ?_
  refine St.then_n ?_
  refine do_seq ?_
  refine do_region ?_
  refine run_read rfl (by decide) (fun _ => nofun) (rd_build (l := []) (vs := [_]) zero46 plc46 rfl rfl) ?_
  refine run_box_row rfl (by decide) rfl (fun b10 => ?_)
  refine run_read rfl (by decide) (fun _ => nofun) (rd_assign rfl) ?_
  refine run_nil ?_
  refine St.keep (β' := [(0, _), (3, _), (4, _)]) ⟨rfl, rfl, rfl, trivial⟩ ?_
  refine St.then_n ?_
  refine do_seq ?_
  refine do_seq ?_
  refine do_region ?_
  refine run_read rfl (by decide) (fun _ => nofun) (rd_assign rfl) ?_
  refine run_nil ?_
  refine St.then_n ?_
  refine do_block ?_
  refine St.sel (P := pts b10 46 [.slice none 0 0]) (by repeat (first | with_reducible exact Sel.head | apply Sel.tail)) (St.ent ref_new ?_)
  refine do_loop (fun x : Nat × List Letter × List RLet × List (Value × List UInt8) => RInv x.2.2.1 x.2.2.2 x.2.1) (fun x => [(0, .slice A l.length c), (3, .pointer (some ⟨p, 0, none⟩)), (4, .pointer (some ⟨b10, 0, none⟩)), (5, .int .i64 x.1)]) (fun x => [netP p x.2.1, refM b10 x.2.2.1 x.2.2.2, kept w]) (fun x => l.length - x.1) (0, [], [], []) ⟨rfl, nofun, nofun, by simp⟩ ⟨rfl, rfl, rfl, rfl, trivial⟩ (by repeat (first | exact Pick.nil | apply Pick.cons (by repeat (first | with_reducible exact Sel.head | apply Sel.tail)))) ?_
  rintro ⟨i, L, M, D⟩ hI
  dsimp only at hI ⊢
  refine do_seq ?_
  refine do_seq ?_
  refine do_cut (fun b : Bool => b = true → i < l.length) (fun b => [(0, .slice A l.length c), (3, .pointer (some ⟨p, 0, none⟩)), (4, .pointer (some ⟨b10, 0, none⟩)), (5, .int .i64 i), (18, .bool b)]) (fun _ => [netP p L, refM b10 M D, kept w]) (fun K hK => ?_) ?_
  · by_cases hA : i < l.length
    · refine do_region ?_
      refine run_read rfl (by decide) (fun _ => nofun) (rd_move rfl) ?_
      refine run_read rfl (by decide) (fun _ => nofun) (rd_move rfl) ?_
      refine run_read rfl (by decide) (fun _ => nofun) (rd_len Try.underlying22 rfl) ?_
      first | refine run_read rfl (by decide) (fun _ => nofun) ((rd_lt rfl rfl).eq (show _ = Value.bool true by simp; omega)) ?_ | refine run_read rfl (by decide) (fun _ => nofun) ((rd_lt rfl rfl).eq (show _ = Value.bool false by simp; omega)) ?_
      refine run_read rfl (by decide) (fun _ => nofun) (rd_move rfl) ?_
      first | (refine run_skip rfl rfl ?_) | (refine run_read rfl (by decide) (fun _ => nofun) (rd_move rfl) ?_)
      first | (refine run_skip rfl rfl ?_) | (refine run_read rfl (by decide) (fun _ => nofun) (rd_lt rfl rfl) ?_)
      first | refine run_read rfl (by decide) (fun _ => nofun) (rd_pick_t rfl rfl) ?_ | refine run_read rfl (by decide) (fun _ => nofun) (rd_pick_f rfl rfl) ?_
      refine run_nil ?_
      refine St.keep (β' := [(0, _), (3, _), (4, _), (5, _), (16, _), (17, _), (18, _)]) ⟨rfl, rfl, rfl, rfl, rfl, rfl, rfl, trivial⟩ ?_
      refine St.then_n ?_
      exact St.keep (β' := [(0, _), (3, _), (4, _), (5, _), (18, _)]) ⟨rfl, rfl, rfl, rfl, rfl, trivial⟩ (hK _ (fun h => by first | exact hA | cases h))
    · refine do_region ?_
      refine run_read rfl (by decide) (fun _ => nofun) (rd_move rfl) ?_
      refine run_read rfl (by decide) (fun _ => nofun) (rd_move rfl) ?_
      refine run_read rfl (by decide) (fun _ => nofun) (rd_len Try.underlying22 rfl) ?_
      first | refine run_read rfl (by decide) (fun _ => nofun) ((rd_lt rfl rfl).eq (show _ = Value.bool true by simp; omega)) ?_ | refine run_read rfl (by decide) (fun _ => nofun) ((rd_lt rfl rfl).eq (show _ = Value.bool false by simp; omega)) ?_
      refine run_read rfl (by decide) (fun _ => nofun) (rd_move rfl) ?_
      first | (refine run_skip rfl rfl ?_) | (refine run_read rfl (by decide) (fun _ => nofun) (rd_move rfl) ?_)
      first | (refine run_skip rfl rfl ?_) | (refine run_read rfl (by decide) (fun _ => nofun) (rd_lt rfl rfl) ?_)
      first | refine run_read rfl (by decide) (fun _ => nofun) (rd_pick_t rfl rfl) ?_ | refine run_read rfl (by decide) (fun _ => nofun) (rd_pick_f rfl rfl) ?_
      refine run_nil ?_
      refine St.keep (β' := [(0, _), (3, _), (4, _), (5, _), (16, _), (17, _), (18, _)]) ⟨rfl, rfl, rfl, rfl, rfl, rfl, rfl, trivial⟩ ?_
      refine St.then_n ?_
      exact St.keep (β' := [(0, _), (3, _), (4, _), (5, _), (18, _)]) ⟨rfl, rfl, rfl, rfl, rfl, trivial⟩ (hK _ (fun h => by first | exact hA | cases h))
  rintro b hb
  first | refine do_condp rfl (fun h18 => ?_) (fun h18 => ?_) | refine do_cond rfl (fun h18 => ?_) (fun h18 => ?_)
  · have hi : i < l.length := hb h18
    have ho := List.getElem?_eq_getElem hi
    have hom := List.mem_of_getElem? ho
    generalize l[i] = o at ho hom
    obtain ⟨hob, hol⟩ := hB o hom
    have hoV : VwB (kept w) o.v o.B := vw_kept (by decide) hob
    have hc := flat_at (f := opL) (k := 4) (fun _ => rfl) ho
    have hc2 := flat_cell (f := opL) (k := 4) (j := 2) (u := .int .i64 o.n) (fun _ => rfl) ho (by decide) rfl
    refine St.vw_some hV (by repeat (first | with_reducible exact Sel.head | apply Sel.tail)) (by omega) (fun g of hg _ _ => ?_)
    subst hg
    refine do_skip ?_
    refine St.then_n ?_
    refine do_seq ?_
    refine do_block ?_
    refine do_seq ?_
    refine do_region ?_
    refine run_read rfl (by decide) (fun _ => nofun) (rd_move rfl) ?_
    refine run_read rfl (by decide) (fun _ => nofun) (rd_move rfl) ?_
    refine run_read rfl (by decide) (fun _ => nofun) (rd_move rfl) ?_
    refine run_read rfl (by decide) (fun _ => nofun) (rd_move rfl) ?_
    refine run_read rfl (by decide) (fun _ => nofun) (rd_indexAddr Try.underlying22 ei30 rfl rfl (by omega) (by omega)) ?_
    refine run_read rfl (by decide) (fun _ => nofun) (rd_load_row rfl row30 rfl (Vw.cells (vs := opL o) hV (by repeat (first | with_reducible exact Sel.head | apply Sel.tail)) (by omega) hc)) ?_
    refine run_spec rfl (by decide) (by kernel_rfl) rfl (by repeat (first | exact Pick.nil | apply Pick.cons (by repeat (first | with_reducible exact Sel.head | apply Sel.tail)))) (step_spec _ o (Vw.sep hoV (by repeat (first | with_reducible exact Sel.head | apply Sel.tail))) hol hI) ?_
    rintro ⟨L1, M1, D1⟩ hI1
    try simp only [List.cons_append, List.nil_append]
    refine run_read rfl (by decide) (fun _ => nofun) (rd_not rfl) ?_
    refine run_read rfl (by decide) (fun _ => nofun) (rd_move rfl) ?_
    first | (refine run_skip rfl rfl ?_) | (refine run_read rfl (by decide) (fun _ => nofun) (rd_move rfl) ?_)
    first | (refine run_skip rfl rfl ?_) | (refine run_read rfl (by decide) (fun _ => nofun) (rd_move rfl) ?_)
    first | (refine run_skip rfl rfl ?_) | (refine run_read rfl (by decide) (fun _ => nofun) (rd_move rfl) ?_)
    first | (refine run_skip rfl rfl ?_) | (refine run_read rfl (by decide) (fun _ => nofun) (rd_move rfl) ?_)
    first | (refine run_skip rfl rfl ?_) | (refine run_read rfl (by decide) (fun _ => nofun) (rd_indexAddr Try.underlying22 ei30 rfl rfl (by omega) (by omega)) ?_)
    first | (refine run_skip rfl rfl ?_) | (refine run_read rfl (by decide) (fun _ => nofun) ((rd_fieldAddr rfl fld30_2).eq (show _ = Value.pointer (some ⟨g, of + (i * 4 + 2), none⟩) by simp [Nat.add_assoc])) ?_)
    first | (refine run_skip rfl rfl ?_) | (refine run_read rfl (by decide) (fun _ => nofun) (rd_load rfl row3 (Vw.cells1 hV (by repeat (first | with_reducible exact Sel.head | apply Sel.tail)) (by omega) hc2)) ?_)
    first
      | (refine run_skip rfl rfl ?_)
      | (refine run_spec rfl (by decide) (by kernel_rfl) rfl (by repeat (first | exact Pick.nil | apply Pick.cons (by repeat (first | with_reducible exact Sel.head | apply Sel.tail)))) (alike_spec _ o.n hI1) ?_
         rintro ⟨⟩ -
         try simp only [List.cons_append, List.nil_append])
    first | (refine run_skip rfl rfl ?_) | (refine run_read rfl (by decide) (fun _ => nofun) (rd_not rfl) ?_)
    first | refine run_read rfl (by decide) (fun _ => nofun) (rd_pick_t rfl rfl) ?_ | refine run_read rfl (by decide) (fun _ => nofun) (rd_pick_f rfl rfl) ?_
    refine run_nil ?_
    refine St.keep (β' := [(0, _), (3, _), (4, _), (5, _), (30, _), (31, _), (32, _), (33, _), (34, _), (35, _), (36, _), (37, _), (38, _), (39, _)]) ⟨rfl, rfl, rfl, rfl, rfl, rfl, rfl, rfl, rfl, rfl, rfl, rfl, rfl, rfl, trivial⟩ ?_
    refine St.then_n ?_
    refine do_cond_f rfl ?_
    refine do_skip ?_
    refine St.blk_n ?_
    refine St.then_n ?_
    refine do_region ?_
    refine run_read rfl (by decide) (fun _ => nofun) (rd_move rfl) ?_
    first | refine run_read rfl (by decide) (fun _ => nofun) ((rd_add rfl rfl).eq (congrArg (Value.int .i64) (IntWalk.i64_in _ (by omega)))) ?_ | refine run_read rfl (by decide) (fun _ => nofun) (rd_add rfl rfl) ?_
    refine run_read rfl (by decide) (fun _ => nofun) (rd_assign rfl) ?_
    refine run_nil ?_
    refine St.then_n ?_
    exact loop_back (i + 1, L1, M1, D1) hI1 (by dsimp only; omega) ⟨rfl, rfl, rfl, rfl, trivial⟩ (by repeat (first | exact Pick.nil | apply Pick.cons (by repeat (first | with_reducible exact Sel.head | apply Sel.tail))))
  · refine do_exit ?_
    refine St.then_x ?_
    refine St.then_x ?_
    refine St.blk_s ?_
    refine St.then_n ?_
    refine do_seq ?_
    refine do_region ?_
    refine run_spec rfl (by decide) (by kernel_rfl) rfl (by repeat (first | exact Pick.nil | apply Pick.cons (by repeat (first | with_reducible exact Sel.head | apply Sel.tail)))) (spec_fr known_any) ?_
    rintro ⟨⟩ -
    try simp only [List.cons_append, List.nil_append]
    refine run_read rfl (by decide) (fun _ => nofun) (rd_assign rfl) ?_
    refine run_nil ?_
    refine St.keep (β' := [(2, _)]) ⟨rfl, trivial⟩ ?_
    refine St.then_n ?_
    refine do_ret ?_
    refine do_ret1 Try.results5 (res_tmp rfl) ?_
    intro w hw
    exact ⟨rfl, hw.to_fr (by repeat (first | with_reducible exact Sel.head | apply Sel.tail))⟩
/-- A call of the script reads so. -/
def NetOpR (W : World) (x : NetOp) (c : List Value) : Prop := c = opL x ∧ Bs W (fun b => b < W.heap.size) x.v x.B ∧ x.B.length ≤ 140737488351232
theorem ops_of {W : World} : ∀ (l : List NetOp) (ys : List Value), RowsL (NetOpR W) l ys → ys = l.flatMap opL ∧ ∀ o ∈ l, Bs W (fun b => b < W.heap.size) o.v o.B ∧ o.B.length ≤ 140737488351232
  | [], ys, h => ⟨h, fun _ h => by cases h⟩
  | x :: l, ys, h => by
    obtain ⟨c, ys', rfl, ⟨rfl, h1, h2⟩, h'⟩ := h
    obtain ⟨rfl, h3⟩ := ops_of l ys' h'
    refine ⟨rfl, fun o ho => ?_⟩
    rcases List.mem_cons.1 ho with rfl | ho
    · exact ⟨h1, h2⟩
    · exact h3 o ho
end
end Go.Proofs.Ytnfmmfodnhmfaaa
