/- The law NetNil: it returns true and turns nothing that was there. -/
import Derived.Test.YtnfmmfodnhmfaaaNil
import Derived.Test.YtnfmmfodnhmfaaaS11
import Derived.Test.YtnfmmfodnhmfaaaTy
namespace Go.Proofs.Ytnfmmfodnhmfaaa
open Go.RowKit
set_option linter.unusedSimpArgs false
set_option linter.unusedVariables false

theorem allNil_spec (F : HP) : Spec Try.prog 20 [.pointer none] [] F (fun _ : Nat => True) (fun g => .func (.func 35) #[] #[.pointer (some ⟨g, 0, none⟩)]) (fun g => [pts g 54 [.slice none 0 0]]) := fun ω w hh =>
  (all_nil w).mono fun e w' ⟨he, hb, hf⟩ => ⟨w.heap.size, trivial, he, hh.more hf (Part.one w.heap.size (.cells #[.slice none 0 0] 54 (0, 0))) (fun x o e => by
    unfold Part.one at e
    split at e
    · rename_i hx; subst hx; cases e; exact ⟨Nat.le_refl _, hb⟩
    · cases e) (Part.one_self _ _)⟩
theorem allNil_iter (g : Nat) (F0 : HP) : IterS Try.prog 35 [.pointer (some ⟨g, 0, none⟩)] (pts g 54 [.slice none 0 0]) (fun _ _ => False) (fun _ _ => Sep []) (fun _ => True) F0 := by
  intro ω l J Jx w hy hh
  refine enter Try.func35 rfl Try.ntmps35 rfl hh ?_
  simp only [argsB]
  refine do_seq ?_
  refine do_region ?_
  refine run_read rfl (by decide) (fun _ => nofun) (rd_load rfl row54 (cells_pts1 (by repeat (first | with_reducible exact Sel.head | apply Sel.tail)) rfl)) ?_
  refine run_read rfl (by decide) (fun _ => nofun) (rd_len Try.underlying54 rfl) ?_
  refine run_read rfl (by decide) (fun _ => nofun) (rd_move rfl) ?_
  refine run_nil ?_
  refine St.then_n ?_
  refine do_block ?_
  refine do_loop (fun _ : Unit => True) (fun _ => [(6, .int .i64 0), (7, .int .i64 0)]) (fun _ => [J 0, pts g 54 [.slice none 0 0], F0]) (fun _ => 0) () trivial ⟨rfl, rfl, trivial⟩ (by repeat (first | exact Pick.nil | apply Pick.cons (by repeat (first | with_reducible exact Sel.head | apply Sel.tail)))) ?_
  rintro ⟨⟩ -
  refine do_seq ?_
  refine do_region ?_
  refine run_read rfl (by decide) (fun _ => nofun) (rd_lt rfl rfl) ?_
  refine run_nil ?_
  refine St.then_n ?_
  refine do_seq ?_
  refine do_cond_f rfl ?_
  refine do_exit ?_
  refine St.then_x ?_
  refine St.then_x ?_
  refine St.blk_s ?_
  refine do_end0 Try.results35 ?_
  intro w hw
  exact ⟨⟨_, rfl⟩, .inl ⟨0, trivial, hw⟩⟩
theorem sameNil_spec (F : HP) : Spec Try.prog 12 [.agg #[.int .i64 0, .int .i64 0, .slice none 0 0], .agg #[.int .i64 0, .int .i64 0, .slice none 0 0]] [] F (fun _ : Unit => True) (fun _ => .bool true) (fun _ => []) :=
  spec_fr fun w => same_yes 0 0 (fun _ => True) (fun _ => True) _ _ [] w (Sl.nil _ _ _) (Sl.nil _ _ _)
theorem netNil_law (k : Int) (v : Value) (w : World) : Calls Try.prog 6 #[.int .i64 k, v] w fun e w' => e = .returned (.bool true) ∧ Fr nowhere w w' := by
  refine enterM (vs := [.int .i64 k, v]) Try.func6 rfl Try.ntmps6 rfl (Holds.init w) ?_
  simp only [argsB]
  refine do_seq ?_
  refine do_region ?_
  refine run_read rfl (by decide) (fun _ => nofun) (rd_assign rfl) ?_
  refine run_nil ?_
  refine St.then_n ?_
  refine do_seq ?_
  refine do_region ?_
  refine run_read rfl (by decide) (fun _ => nofun) (rd_assign rfl) ?_
  refine run_nil ?_
  refine St.then_n ?_
  refine do_seq ?_
  refine do_region ?_
  refine run_read rfl (by decide) (fun _ => nofun) (rd_move rfl) ?_
  refine run_read rfl (by decide) (fun _ => nofun) (rd_move rfl) ?_
  refine run_spec rfl (by decide) (by kernel_rfl) rfl (by repeat (first | exact Pick.nil | apply Pick.cons (by repeat (first | with_reducible exact Sel.head | apply Sel.tail)))) (spec_fr (v := .tuple #[noLetter, .int .i64 2]) (fun w => look_nil k w)) ?_
  rintro ⟨⟩ -
  unfold noLetter
  simp only [List.cons_append, List.nil_append]
  refine run_read rfl (by decide) (fun _ => nofun) (rd_move rfl) ?_
  refine run_read rfl (by decide) (fun _ => nofun) (rd_extract rfl rfl) ?_
  refine run_read rfl (by decide) (fun _ => nofun) (rd_extract rfl rfl) ?_
  refine run_alloc rfl (by decide) zero35 (fun b6 => ?_)
  first | refine run_store_all rfl rfl rfl (by repeat (first | with_reducible exact Sel.head | apply Sel.tail)) row35 rfl rfl rfl ?_ | refine run_store_mid rfl rfl rfl (by repeat (first | with_reducible exact Sel.head | apply Sel.tail)) row35 rfl rfl rfl (by simp only [setL, List.length_cons, List.length_nil, Nat.reduceAdd, List.take_succ_cons, List.take_zero, List.drop_succ_cons, List.drop_zero, List.cons_append, List.nil_append, List.append_nil]; exact rfl) ?_
  refine run_read rfl (by decide) (fun _ => nofun) (rd_assign rfl) ?_
  refine run_nil ?_
  refine St.keep (β' := [(0, _), (1, _), (4, _), (5, _), (6, _), (7, _)]) ⟨rfl, rfl, rfl, rfl, rfl, rfl, trivial⟩ ?_
  refine St.then_n ?_
  refine do_seq ?_
  refine do_region ?_
  refine run_read rfl (by decide) (fun _ => nofun) (rd_move rfl) ?_
  refine run_read rfl (by decide) (fun _ => nofun) (rd_move rfl) ?_
  refine run_spec rfl (by decide) (by kernel_rfl) rfl (by repeat (first | exact Pick.nil | apply Pick.cons (by repeat (first | with_reducible exact Sel.head | apply Sel.tail)))) (spec_fr (v := .tuple #[noLetter, .int .i64 2]) (fun w => take_nil k w)) ?_
  rintro ⟨⟩ -
  unfold noLetter
  simp only [List.cons_append, List.nil_append]
  refine run_read rfl (by decide) (fun _ => nofun) (rd_move rfl) ?_
  refine run_read rfl (by decide) (fun _ => nofun) (rd_extract rfl rfl) ?_
  refine run_read rfl (by decide) (fun _ => nofun) (rd_extract rfl rfl) ?_
  refine run_alloc rfl (by decide) zero35 (fun b8 => ?_)
  first | refine run_store_all rfl rfl rfl (by repeat (first | with_reducible exact Sel.head | apply Sel.tail)) row35 rfl rfl rfl ?_ | refine run_store_mid rfl rfl rfl (by repeat (first | with_reducible exact Sel.head | apply Sel.tail)) row35 rfl rfl rfl (by simp only [setL, List.length_cons, List.length_nil, Nat.reduceAdd, List.take_succ_cons, List.take_zero, List.drop_succ_cons, List.drop_zero, List.cons_append, List.nil_append, List.append_nil]; exact rfl) ?_
  refine run_read rfl (by decide) (fun _ => nofun) (rd_assign rfl) ?_
  refine run_nil ?_
  refine St.keep (β' := [(0, _), (1, _), (4, _), (5, _), (6, _), (7, _), (8, _), (9, _)]) ⟨rfl, rfl, rfl, rfl, rfl, rfl, rfl, rfl, trivial⟩ ?_
  refine St.then_n ?_
  refine do_seq ?_
  refine do_region ?_
  refine run_alloc rfl (by decide) zero3 (fun b10 => ?_)
  refine run_store rfl rfl rfl (by repeat (first | with_reducible exact Sel.head | apply Sel.tail)) row3 rfl rfl (by simp only [List.set_cons_succ, List.set_cons_zero]; exact rfl) ?_
  refine run_nil ?_
  refine St.then_n ?_
  refine do_seq ?_
  refine do_seq ?_
  refine do_region ?_
  refine run_read rfl (by decide) (fun _ => nofun) (rd_move rfl) ?_
  refine run_spec rfl (by decide) (by kernel_rfl) rfl (by repeat (first | exact Pick.nil | apply Pick.cons (by repeat (first | with_reducible exact Sel.head | apply Sel.tail)))) (allNil_spec _) ?_
  rintro g -
  simp only [List.cons_append, List.nil_append]
  refine run_read rfl (by decide) (fun _ => nofun) (rd_assign rfl) ?_
  refine run_nil ?_
  refine St.then_n ?_
  refine do_seq ?_
  refine do_region ?_
  refine run_read rfl (by decide) (fun _ => nofun) (rd_move rfl) ?_
  refine run_read rfl (by decide) (fun _ => nofun) (rd_fn_ne_nil Try.underlying50 rfl rfl) ?_
  refine run_nil ?_
  refine St.then_n ?_
  refine do_cond_t rfl ?_
  refine do_seq ?_
  refine do_region ?_
  refine run_read rfl (by decide) (fun _ => nofun) (rd_move rfl) ?_
  refine run_nil ?_
  refine St.keep (β' := [(0, _), (1, _), (4, _), (5, _), (6, _), (7, _), (8, _), (9, _), (10, _), (28, _)]) ⟨rfl, rfl, rfl, rfl, rfl, rfl, rfl, rfl, rfl, rfl, trivial⟩ ?_
  refine St.then_n ?_
  refine do_block ?_
  refine do_range rfl (by kernel_rfl) (fun _ => []) (fun _ => [fun _ => False]) (allNil_iter g) (by repeat (first | exact Pick.nil | apply Pick.cons (by repeat (first | with_reducible exact Sel.head | apply Sel.tail)))) (fun _ _ (_ : Unit) => True) (fun _ _ _ => []) (fun _ _ _ => []) (fun _ _ h => h.elim) (by decide) (fun _ _ _ _ h => h.elim) (fun _ _ _ _ _ h => h.elim) (fun D i _ => ?_) (fun D c => St.false (.tail .head))
  refine St.blk_n ?_
  refine St.then_n ?_
  refine do_seq ?_
  refine do_region ?_
  refine run_read rfl (by decide) (fun _ => nofun) (rd_load_row (vs := [_, _, _]) rfl row35 rfl (cells_pts (by repeat (first | with_reducible exact Sel.head | apply Sel.tail)) rfl)) ?_
  refine run_spec rfl (by decide) (by kernel_rfl) rfl (by repeat (first | exact Pick.nil | apply Pick.cons (by repeat (first | with_reducible exact Sel.head | apply Sel.tail)))) (spec_fr (fun w => as_any 0 0 none 0 0 w)) ?_
  rintro ⟨⟩ -
  simp only [List.cons_append, List.nil_append]
  refine run_read rfl (by decide) (fun _ => nofun) (rd_build (l := []) (vs := [_, _, _]) zero32 plc32 rfl rfl) ?_
  refine run_spec rfl (by decide) (by kernel_rfl) rfl (by repeat (first | exact Pick.nil | apply Pick.cons (by repeat (first | with_reducible exact Sel.head | apply Sel.tail)))) (sameNil_spec _) ?_
  rintro ⟨⟩ -
  simp only [List.cons_append, List.nil_append]
  refine run_read rfl (by decide) (fun _ => nofun) (rd_move rfl) ?_
  first | (refine run_skip rfl rfl ?_) | (refine run_read rfl (by decide) (fun _ => nofun) (rd_move rfl) ?_)
  first | (refine run_skip rfl rfl ?_) | (refine run_read rfl (by decide) (fun _ => nofun) (rd_eq rfl rfl) ?_)
  first | refine run_read rfl (by decide) (fun _ => nofun) (rd_pick_t rfl rfl) ?_ | refine run_read rfl (by decide) (fun _ => nofun) (rd_pick_f rfl rfl) ?_
  refine run_read rfl (by decide) (fun _ => nofun) (rd_move rfl) ?_
  first | (refine run_skip rfl rfl ?_) | (refine run_read rfl (by decide) (fun _ => nofun) (rd_load_row (vs := [_, _, _]) rfl row35 rfl (cells_pts (by repeat (first | with_reducible exact Sel.head | apply Sel.tail)) rfl)) ?_)
  first
    | (refine run_skip rfl rfl ?_)
    | (refine run_spec rfl (by decide) (by kernel_rfl) rfl (by repeat (first | exact Pick.nil | apply Pick.cons (by repeat (first | with_reducible exact Sel.head | apply Sel.tail)))) (spec_fr (fun w => as_any 0 0 none 0 0 w)) ?_
       rintro ⟨⟩ -
       simp only [List.cons_append, List.nil_append])
  first | (refine run_skip rfl rfl ?_) | (refine run_read rfl (by decide) (fun _ => nofun) (rd_build (l := []) (vs := [_, _, _]) zero32 plc32 rfl rfl) ?_)
  first
    | (refine run_skip rfl rfl ?_)
    | (refine run_spec rfl (by decide) (by kernel_rfl) rfl (by repeat (first | exact Pick.nil | apply Pick.cons (by repeat (first | with_reducible exact Sel.head | apply Sel.tail)))) (sameNil_spec _) ?_
       rintro ⟨⟩ -
       simp only [List.cons_append, List.nil_append])
  first | refine run_read rfl (by decide) (fun _ => nofun) (rd_pick_t rfl rfl) ?_ | refine run_read rfl (by decide) (fun _ => nofun) (rd_pick_f rfl rfl) ?_
  refine run_read rfl (by decide) (fun _ => nofun) (rd_move rfl) ?_
  first | (refine run_skip rfl rfl ?_) | (refine run_read rfl (by decide) (fun _ => nofun) (rd_move rfl) ?_)
  first | (refine run_skip rfl rfl ?_) | (refine run_read rfl (by decide) (fun _ => nofun) (rd_eq rfl rfl) ?_)
  first | refine run_read rfl (by decide) (fun _ => nofun) (rd_pick_t rfl rfl) ?_ | refine run_read rfl (by decide) (fun _ => nofun) (rd_pick_f rfl rfl) ?_
  refine run_read rfl (by decide) (fun _ => nofun) (rd_move rfl) ?_
  first | (refine run_skip rfl rfl ?_) | (refine run_read rfl (by decide) (fun _ => nofun) (rd_move rfl) ?_)
  first | (refine run_skip rfl rfl ?_) | (refine run_read rfl (by decide) (fun _ => nofun) (rd_move rfl) ?_)
  first
    | (refine run_skip rfl rfl ?_)
    | (refine run_spec rfl (by decide) (by kernel_rfl) rfl (by repeat (first | exact Pick.nil | apply Pick.cons (by repeat (first | with_reducible exact Sel.head | apply Sel.tail)))) (spec_eq (fun w => send_nil 0 1 v w)) ?_
       rintro ⟨⟩ -
       simp only [List.cons_append, List.nil_append])
  first | (refine run_skip rfl rfl ?_) | (refine run_read rfl (by decide) (fun _ => nofun) (rd_eq rfl rfl) ?_)
  first | refine run_read rfl (by decide) (fun _ => nofun) (rd_pick_t rfl rfl) ?_ | refine run_read rfl (by decide) (fun _ => nofun) (rd_pick_f rfl rfl) ?_
  refine run_read rfl (by decide) (fun _ => nofun) (rd_move rfl) ?_
  first | (refine run_skip rfl rfl ?_) | (refine run_read rfl (by decide) (fun _ => nofun) (rd_move rfl) ?_)
  first | (refine run_skip rfl rfl ?_) | (refine run_read rfl (by decide) (fun _ => nofun) (rd_move rfl) ?_)
  first
    | (refine run_skip rfl rfl ?_)
    | (refine run_spec rfl (by decide) (by kernel_rfl) rfl (by repeat (first | exact Pick.nil | apply Pick.cons (by repeat (first | with_reducible exact Sel.head | apply Sel.tail)))) (spec_fr (fun w => drop_nil k w)) ?_
       rintro ⟨⟩ -
       simp only [List.cons_append, List.nil_append])
  first | (refine run_skip rfl rfl ?_) | (refine run_read rfl (by decide) (fun _ => nofun) (rd_eq rfl rfl) ?_)
  first | refine run_read rfl (by decide) (fun _ => nofun) (rd_pick_t rfl rfl) ?_ | refine run_read rfl (by decide) (fun _ => nofun) (rd_pick_f rfl rfl) ?_
  refine run_read rfl (by decide) (fun _ => nofun) (rd_move rfl) ?_
  first | (refine run_skip rfl rfl ?_) | (refine run_read rfl (by decide) (fun _ => nofun) (rd_move rfl) ?_)
  first | (refine run_skip rfl rfl ?_) | (refine run_read rfl (by decide) (fun _ => nofun) (rd_move rfl) ?_)
  first
    | (refine run_skip rfl rfl ?_)
    | (refine run_spec rfl (by decide) (by kernel_rfl) rfl (by repeat (first | exact Pick.nil | apply Pick.cons (by repeat (first | with_reducible exact Sel.head | apply Sel.tail)))) (spec_fr (fun w => double_nil k w)) ?_
       rintro ⟨⟩ -
       simp only [List.cons_append, List.nil_append])
  first | (refine run_skip rfl rfl ?_) | (refine run_read rfl (by decide) (fun _ => nofun) (rd_eq rfl rfl) ?_)
  first | refine run_read rfl (by decide) (fun _ => nofun) (rd_pick_t rfl rfl) ?_ | refine run_read rfl (by decide) (fun _ => nofun) (rd_pick_f rfl rfl) ?_
  refine run_read rfl (by decide) (fun _ => nofun) (rd_move rfl) ?_
  first | (refine run_skip rfl rfl ?_) | (refine run_read rfl (by decide) (fun _ => nofun) (rd_move rfl) ?_)
  first
    | (refine run_skip rfl rfl ?_)
    | (refine run_spec rfl (by decide) (by kernel_rfl) rfl (by repeat (first | exact Pick.nil | apply Pick.cons (by repeat (first | with_reducible exact Sel.head | apply Sel.tail)))) (spec_eq (fun w => len_nil w)) ?_
       rintro ⟨⟩ -
       simp only [List.cons_append, List.nil_append])
  first | (refine run_skip rfl rfl ?_) | (refine run_read rfl (by decide) (fun _ => nofun) (rd_eq rfl rfl) ?_)
  first | refine run_read rfl (by decide) (fun _ => nofun) (rd_pick_t rfl rfl) ?_ | refine run_read rfl (by decide) (fun _ => nofun) (rd_pick_f rfl rfl) ?_
  refine run_read rfl (by decide) (fun _ => nofun) (rd_move rfl) ?_
  first | (refine run_skip rfl rfl ?_) | (refine run_read rfl (by decide) (fun _ => nofun) (rd_move rfl) ?_)
  first | (refine run_skip rfl rfl ?_) | (refine run_read rfl (by decide) (fun _ => nofun) (rd_move rfl) ?_)
  first
    | (refine run_skip rfl rfl ?_)
    | (refine run_spec rfl (by decide) (by kernel_rfl) rfl (by repeat (first | exact Pick.nil | apply Pick.cons (by repeat (first | with_reducible exact Sel.head | apply Sel.tail)))) (spec_eq (fun w => to_nil k w)) ?_
       rintro ⟨⟩ -
       simp only [List.cons_append, List.nil_append])
  first | (refine run_skip rfl rfl ?_) | (refine run_read rfl (by decide) (fun _ => nofun) (rd_eq rfl rfl) ?_)
  first | refine run_read rfl (by decide) (fun _ => nofun) (rd_pick_t rfl rfl) ?_ | refine run_read rfl (by decide) (fun _ => nofun) (rd_pick_f rfl rfl) ?_
  refine run_read rfl (by decide) (fun _ => nofun) (rd_move rfl) ?_
  first | (refine run_skip rfl rfl ?_) | (refine run_read rfl (by decide) (fun _ => nofun) (rd_load rfl row3 (cells_pts1 (by repeat (first | with_reducible exact Sel.head | apply Sel.tail)) rfl)) ?_)
  first | (refine run_skip rfl rfl ?_) | (refine run_read rfl (by decide) (fun _ => nofun) (rd_eq rfl rfl) ?_)
  first | refine run_read rfl (by decide) (fun _ => nofun) (rd_pick_t rfl rfl) ?_ | refine run_read rfl (by decide) (fun _ => nofun) (rd_pick_f rfl rfl) ?_
  refine run_read rfl (by decide) (fun _ => nofun) (rd_move rfl) ?_
  first
    | (refine run_skip rfl rfl ?_)
    | (refine run_spec rfl (by decide) (by kernel_rfl) rfl (by repeat (first | exact Pick.nil | apply Pick.cons (by repeat (first | with_reducible exact Sel.head | apply Sel.tail)))) (spec_fr known_any) ?_
       rintro ⟨⟩ -
       simp only [List.cons_append, List.nil_append])
  first | refine run_read rfl (by decide) (fun _ => nofun) (rd_pick_t rfl rfl) ?_ | refine run_read rfl (by decide) (fun _ => nofun) (rd_pick_f rfl rfl) ?_
  refine run_read rfl (by decide) (fun _ => nofun) (rd_assign rfl) ?_
  refine run_nil ?_
  refine St.keep (β' := [(4, _)]) ⟨rfl, trivial⟩ ?_
  refine St.then_n ?_
  refine do_ret ?_
  refine do_retM1 [D] rfl (by repeat (first | exact Pick.nil | apply Pick.cons (by repeat (first | with_reducible exact Sel.head | apply Sel.tail)))) Try.results6 (res_tmp rfl) ?_
  intro w hw
  exact ⟨rfl, hw.to_fr (by repeat (first | with_reducible exact Sel.head | apply Sel.tail))⟩
end Go.Proofs.Ytnfmmfodnhmfaaa
