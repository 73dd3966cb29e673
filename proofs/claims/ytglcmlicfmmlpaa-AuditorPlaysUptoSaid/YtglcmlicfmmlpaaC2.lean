/-
  Operations, commands, asks as bytes: what the program makes.
-/
import Derived.Test.YtglcmlicfmmlpaaC1
namespace Go.Proofs.Ytglcmlicfmmlpaa
open Go.RowKit
set_option linter.unusedSimpArgs false
set_option linter.unusedVariables false

def i64r (n : Int) : Prop := -9223372036854775808 ≤ n ∧ n ≤ 9223372036854775807
/-- Is a text not too long? -/
def shortS (s : List UInt8) : Prop := s.length ≤ 1099511627776
/-- A text behind bytes: how long it is, then it. -/
def txt (s : List UInt8) : List UInt8 := uvar s.length ++ s
theorem txt_len {s : List UInt8} (h : shortS s) : (txt s).length ≤ 1099511627786 := by
  unfold shortS at h
  have := uvar_len64 (n := s.length) (by omega)
  unfold txt
  rw [List.length_append]; omega
structure GOp where
  kind : Int
  src : List UInt8
  dst : List UInt8
  amt : Int
  key : List UInt8
  slot : Int
  shard : Int
abbrev GOp.L (o : GOp) : List Value := [.int .i64 o.kind, .string (strOf o.src), .string (strOf o.dst), .int .i64 o.amt, .string (strOf o.key), .int .i64 o.slot, .int .i64 o.shard]
structure GOp.ok (o : GOp) : Prop where
  kind : i64r o.kind
  src : shortS o.src
  dst : shortS o.dst
  amt : i64r o.amt
  key : shortS o.key
  slot : i64r o.slot
  shard : i64r o.shard
def opB (o : GOp) : List UInt8 := ivar o.kind ++ txt o.src ++ txt o.dst ++ ivar o.amt ++ txt o.key ++ ivar o.slot ++ ivar o.shard
theorem opB_len {o : GOp} (h : o.ok) : (opB o).length ≤ 4398046511104 := by
  have := ivar_len h.kind
  have := txt_len h.src
  have := txt_len h.dst
  have := ivar_len h.amt
  have := txt_len h.key
  have := ivar_len h.slot
  have := ivar_len h.shard
  unfold opB
  simp only [List.length_append]; omega
theorem sel_bytes {v : Value} {a b : List UInt8} {Γ Γ' : List HP} (h : Sel (bytesO v a) Γ Γ') (e : a = b) : Sel (bytesO v b) Γ Γ' := e ▸ h
set_option maxRecDepth 4000 in
theorem putOp_spec (F : HP) (v : Value) (bs : List UInt8) (o : GOp) (hF : VwB F v bs) (ho : o.ok) (hl : bs.length ≤ 35184372088832) :
    Spec Try.prog 113 [v, .agg o.L.toArray] [] F (fun _ : Value => True) (fun v' => v') (fun v' => [bytesO v' (bs ++ opB o)]) := by
  intro ω w hh
  refine enter Try.func113 rfl Try.ntmps113 rfl hh ?_
  simp only [List.nil_append, argsB]
  obtain ⟨kind, src, dst, amt, key, slot, shard⟩ := o
  obtain ⟨h1, h2, h3, h4, h5, h6, h7⟩ := ho
  dsimp only at h1 h2 h3 h4 h5 h6 h7 ⊢
  have l1 := ivar_len h1
  have l2 := uvar_len64 (n := src.length) (by unfold shortS at h2; omega)
  have l3 := uvar_len64 (n := dst.length) (by unfold shortS at h3; omega)
  have l4 := ivar_len h4
  have l5 := uvar_len64 (n := key.length) (by unfold shortS at h5; omega)
  have l6 := ivar_len h6
  have l7 := ivar_len h7
  unfold i64r shortS at *
  refine do_seq ?_
  refine do_region ?_
  refine run_box_row rfl (by decide) rfl (fun b3 => ?_)
  refine run_read rfl (by decide) (fun _ => nofun) (rd_assign rfl) ?_
  refine run_nil ?_
  refine St.then_n ?_
  refine do_seq ?_
  refine do_draw [[3, 6, 9, 10], [2, 3, 6, 9, 10], [3, 6, 9, 10], [6, 9, 10], [5, 6, 9, 10], [6, 9, 10], [9, 10], [8, 9, 10], [9, 10], [10], []] (by kernel_rfl) rfl ?_
  refine any_take (i := 0) (by kernel_rfl) rfl rfl (by decide) (fun _ _ _ _ _ h => h) rfl (rd_move rfl) ?_
  first | refine any_take (i := 1) (by kernel_rfl) rfl rfl (by decide) (fun _ _ _ _ _ h => h) rfl (rd_fieldAddr0 rfl fld24_0) ?_ | refine any_take (i := 1) (by kernel_rfl) rfl rfl (by decide) (fun _ _ _ _ _ h => h) rfl (rd_fieldAddr rfl fld24_0) ?_
  refine any_take (i := 2) (by kernel_rfl) rfl rfl (by decide) (fun _ _ _ _ _ h => h) rfl (rd_load rfl row3 (cells_pts1 (by repeat (first | with_reducible exact Sel.head | apply Sel.tail)) rfl)) ?_
  first | refine any_take (i := 4) (by kernel_rfl) rfl rfl (by decide) (fun _ _ _ _ _ h => h) rfl (rd_fieldAddr0 rfl fld24_1) ?_ | refine any_take (i := 4) (by kernel_rfl) rfl rfl (by decide) (fun _ _ _ _ _ h => h) rfl (rd_fieldAddr rfl fld24_1) ?_
  refine any_take (i := 5) (by kernel_rfl) rfl rfl (by decide) (fun _ _ _ _ _ h => h) rfl (rd_load rfl row9 (cells_pts1 (by repeat (first | with_reducible exact Sel.head | apply Sel.tail)) rfl)) ?_
  first | refine any_take (i := 7) (by kernel_rfl) rfl rfl (by decide) (fun _ _ _ _ _ h => h) rfl (rd_fieldAddr0 rfl fld24_2) ?_ | refine any_take (i := 7) (by kernel_rfl) rfl rfl (by decide) (fun _ _ _ _ _ h => h) rfl (rd_fieldAddr rfl fld24_2) ?_
  refine any_take (i := 8) (by kernel_rfl) rfl rfl (by decide) (fun _ _ _ _ _ h => h) rfl (rd_load rfl row9 (cells_pts1 (by repeat (first | with_reducible exact Sel.head | apply Sel.tail)) rfl)) ?_
  refine any_run (j := 3) (by kernel_rfl) rfl ?_
  refine run_spec rfl (by decide) (by kernel_rfl) rfl (by repeat (first | exact Pick.nil | apply Pick.cons (by repeat (first | with_reducible exact Sel.head | apply Sel.tail)))) (int_spec _ _ _ _ (by first | with_reducible exact vwb_nil _ | exact Vw.sep hF (by repeat (first | with_reducible exact Sel.head | apply Sel.tail)) | exact Vw.sep hG (by repeat (first | with_reducible exact Sel.head | apply Sel.tail)) | exact Vw.sep vw_bytes (by repeat (first | with_reducible exact Sel.head | apply Sel.tail))) h1 (by first | omega | (simp only [List.length_append, List.length_nil, List.length_cons]; omega))) ?_
  rintro v1 -
  try simp only [List.cons_append, List.nil_append]
  refine run_nil ?_
  refine St.then_n ?_
  refine any_next (by (apply Beh.keep (i := 8) (by kernel_rfl) rfl (rd_load rfl row9 (cells_pts1 (by repeat (first | with_reducible exact Sel.head | apply Sel.tail)) rfl))); (first | apply Beh.keep (i := 7) (by kernel_rfl) rfl (rd_fieldAddr0 rfl fld24_2) | apply Beh.keep (i := 7) (by kernel_rfl) rfl (rd_fieldAddr rfl fld24_2)); (apply Beh.keep (i := 5) (by kernel_rfl) rfl (rd_load rfl row9 (cells_pts1 (by repeat (first | with_reducible exact Sel.head | apply Sel.tail)) rfl))); (first | apply Beh.keep (i := 4) (by kernel_rfl) rfl (rd_fieldAddr0 rfl fld24_1) | apply Beh.keep (i := 4) (by kernel_rfl) rfl (rd_fieldAddr rfl fld24_1)); apply Beh.drop (i := 2) (by kernel_rfl); apply Beh.drop (i := 1) (by kernel_rfl); apply Beh.drop (i := 0) (by kernel_rfl); exact .nil) ?_
  refine any_run (j := 6) (by kernel_rfl) rfl ?_
  refine run_spec rfl (by decide) (by kernel_rfl) rfl (by repeat (first | exact Pick.nil | apply Pick.cons (by repeat (first | with_reducible exact Sel.head | apply Sel.tail)))) (text_spec _ _ _ _ (by first | with_reducible exact vwb_nil _ | exact Vw.sep hF (by repeat (first | with_reducible exact Sel.head | apply Sel.tail)) | exact Vw.sep hG (by repeat (first | with_reducible exact Sel.head | apply Sel.tail)) | exact Vw.sep vw_bytes (by repeat (first | with_reducible exact Sel.head | apply Sel.tail))) h2 (by first | omega | (simp only [List.length_append, List.length_nil, List.length_cons]; omega))) ?_
  rintro v2 -
  try simp only [List.cons_append, List.nil_append]
  refine run_nil ?_
  refine St.then_n ?_
  refine any_next (by (apply Beh.keep (i := 8) (by kernel_rfl) rfl (rd_load rfl row9 (cells_pts1 (by repeat (first | with_reducible exact Sel.head | apply Sel.tail)) rfl))); (first | apply Beh.keep (i := 7) (by kernel_rfl) rfl (rd_fieldAddr0 rfl fld24_2) | apply Beh.keep (i := 7) (by kernel_rfl) rfl (rd_fieldAddr rfl fld24_2)); apply Beh.drop (i := 5) (by kernel_rfl); apply Beh.drop (i := 4) (by kernel_rfl); exact .nil) ?_
  refine any_run (j := 9) (by kernel_rfl) rfl ?_
  refine run_spec rfl (by decide) (by kernel_rfl) rfl (by repeat (first | exact Pick.nil | apply Pick.cons (by repeat (first | with_reducible exact Sel.head | apply Sel.tail)))) (text_spec _ _ _ _ (by first | with_reducible exact vwb_nil _ | exact Vw.sep hF (by repeat (first | with_reducible exact Sel.head | apply Sel.tail)) | exact Vw.sep hG (by repeat (first | with_reducible exact Sel.head | apply Sel.tail)) | exact Vw.sep vw_bytes (by repeat (first | with_reducible exact Sel.head | apply Sel.tail))) h3 (by first | omega | (simp only [List.length_append, List.length_nil, List.length_cons]; omega))) ?_
  rintro v3 -
  try simp only [List.cons_append, List.nil_append]
  refine run_nil ?_
  refine St.then_n ?_
  refine any_next (by apply Beh.drop (i := 8) (by kernel_rfl); apply Beh.drop (i := 7) (by kernel_rfl); exact .nil) ?_
  refine any_take (i := 10) (by kernel_rfl) rfl rfl (by decide) (fun _ _ _ _ _ h => h) rfl (rd_assign rfl) ?_
  refine any_nil (by kernel_rfl) ?_
  refine St.keep (β' := [(0, _), (3, _)]) ⟨rfl, rfl, trivial⟩ ?_
  refine St.then_n ?_
  refine do_seq ?_
  refine do_draw [[3, 6, 7], [2, 3, 6, 7], [3, 6, 7], [6, 7], [5, 6, 7], [6, 7], [7], []] (by kernel_rfl) rfl ?_
  refine any_take (i := 0) (by kernel_rfl) rfl rfl (by decide) (fun _ _ _ _ _ h => h) rfl (rd_move rfl) ?_
  first | refine any_take (i := 1) (by kernel_rfl) rfl rfl (by decide) (fun _ _ _ _ _ h => h) rfl (rd_fieldAddr0 rfl fld24_3) ?_ | refine any_take (i := 1) (by kernel_rfl) rfl rfl (by decide) (fun _ _ _ _ _ h => h) rfl (rd_fieldAddr rfl fld24_3) ?_
  refine any_take (i := 2) (by kernel_rfl) rfl rfl (by decide) (fun _ _ _ _ _ h => h) rfl (rd_load rfl row2 (cells_pts1 (by repeat (first | with_reducible exact Sel.head | apply Sel.tail)) rfl)) ?_
  first | refine any_take (i := 4) (by kernel_rfl) rfl rfl (by decide) (fun _ _ _ _ _ h => h) rfl (rd_fieldAddr0 rfl fld24_4) ?_ | refine any_take (i := 4) (by kernel_rfl) rfl rfl (by decide) (fun _ _ _ _ _ h => h) rfl (rd_fieldAddr rfl fld24_4) ?_
  refine any_take (i := 5) (by kernel_rfl) rfl rfl (by decide) (fun _ _ _ _ _ h => h) rfl (rd_load rfl row9 (cells_pts1 (by repeat (first | with_reducible exact Sel.head | apply Sel.tail)) rfl)) ?_
  refine any_run (j := 3) (by kernel_rfl) rfl ?_
  refine run_spec rfl (by decide) (by kernel_rfl) rfl (by repeat (first | exact Pick.nil | apply Pick.cons (by repeat (first | with_reducible exact Sel.head | apply Sel.tail)))) (int_spec _ _ _ _ (by first | with_reducible exact vwb_nil _ | exact Vw.sep hF (by repeat (first | with_reducible exact Sel.head | apply Sel.tail)) | exact Vw.sep hG (by repeat (first | with_reducible exact Sel.head | apply Sel.tail)) | exact Vw.sep vw_bytes (by repeat (first | with_reducible exact Sel.head | apply Sel.tail))) h4 (by first | omega | (simp only [List.length_append, List.length_nil, List.length_cons]; omega))) ?_
  rintro v4 -
  try simp only [List.cons_append, List.nil_append]
  refine run_nil ?_
  refine St.then_n ?_
  refine any_next (by (apply Beh.keep (i := 5) (by kernel_rfl) rfl (rd_load rfl row9 (cells_pts1 (by repeat (first | with_reducible exact Sel.head | apply Sel.tail)) rfl))); (first | apply Beh.keep (i := 4) (by kernel_rfl) rfl (rd_fieldAddr0 rfl fld24_4) | apply Beh.keep (i := 4) (by kernel_rfl) rfl (rd_fieldAddr rfl fld24_4)); apply Beh.drop (i := 2) (by kernel_rfl); apply Beh.drop (i := 1) (by kernel_rfl); apply Beh.drop (i := 0) (by kernel_rfl); exact .nil) ?_
  refine any_run (j := 6) (by kernel_rfl) rfl ?_
  refine run_spec rfl (by decide) (by kernel_rfl) rfl (by repeat (first | exact Pick.nil | apply Pick.cons (by repeat (first | with_reducible exact Sel.head | apply Sel.tail)))) (text_spec _ _ _ _ (by first | with_reducible exact vwb_nil _ | exact Vw.sep hF (by repeat (first | with_reducible exact Sel.head | apply Sel.tail)) | exact Vw.sep hG (by repeat (first | with_reducible exact Sel.head | apply Sel.tail)) | exact Vw.sep vw_bytes (by repeat (first | with_reducible exact Sel.head | apply Sel.tail))) h5 (by first | omega | (simp only [List.length_append, List.length_nil, List.length_cons]; omega))) ?_
  rintro v5 -
  try simp only [List.cons_append, List.nil_append]
  refine run_nil ?_
  refine St.then_n ?_
  refine any_next (by apply Beh.drop (i := 5) (by kernel_rfl); apply Beh.drop (i := 4) (by kernel_rfl); exact .nil) ?_
  refine any_take (i := 7) (by kernel_rfl) rfl rfl (by decide) (fun _ _ _ _ _ h => h) rfl (rd_assign rfl) ?_
  refine any_nil (by kernel_rfl) ?_
  refine St.keep (β' := [(0, _), (3, _)]) ⟨rfl, rfl, trivial⟩ ?_
  refine St.then_n ?_
  refine do_seq ?_
  refine do_draw [[3, 6, 7], [2, 3, 6, 7], [3, 6, 7], [6, 7], [5, 6, 7], [6, 7], [7], []] (by kernel_rfl) rfl ?_
  refine any_take (i := 0) (by kernel_rfl) rfl rfl (by decide) (fun _ _ _ _ _ h => h) rfl (rd_move rfl) ?_
  first | refine any_take (i := 1) (by kernel_rfl) rfl rfl (by decide) (fun _ _ _ _ _ h => h) rfl (rd_fieldAddr0 rfl fld24_5) ?_ | refine any_take (i := 1) (by kernel_rfl) rfl rfl (by decide) (fun _ _ _ _ _ h => h) rfl (rd_fieldAddr rfl fld24_5) ?_
  refine any_take (i := 2) (by kernel_rfl) rfl rfl (by decide) (fun _ _ _ _ _ h => h) rfl (rd_load rfl row3 (cells_pts1 (by repeat (first | with_reducible exact Sel.head | apply Sel.tail)) rfl)) ?_
  first | refine any_take (i := 4) (by kernel_rfl) rfl rfl (by decide) (fun _ _ _ _ _ h => h) rfl (rd_fieldAddr0 rfl fld24_6) ?_ | refine any_take (i := 4) (by kernel_rfl) rfl rfl (by decide) (fun _ _ _ _ _ h => h) rfl (rd_fieldAddr rfl fld24_6) ?_
  refine any_take (i := 5) (by kernel_rfl) rfl rfl (by decide) (fun _ _ _ _ _ h => h) rfl (rd_load rfl row3 (cells_pts1 (by repeat (first | with_reducible exact Sel.head | apply Sel.tail)) rfl)) ?_
  refine any_run (j := 3) (by kernel_rfl) rfl ?_
  refine run_spec rfl (by decide) (by kernel_rfl) rfl (by repeat (first | exact Pick.nil | apply Pick.cons (by repeat (first | with_reducible exact Sel.head | apply Sel.tail)))) (int_spec _ _ _ _ (by first | with_reducible exact vwb_nil _ | exact Vw.sep hF (by repeat (first | with_reducible exact Sel.head | apply Sel.tail)) | exact Vw.sep hG (by repeat (first | with_reducible exact Sel.head | apply Sel.tail)) | exact Vw.sep vw_bytes (by repeat (first | with_reducible exact Sel.head | apply Sel.tail))) h6 (by first | omega | (simp only [List.length_append, List.length_nil, List.length_cons]; omega))) ?_
  rintro v6 -
  try simp only [List.cons_append, List.nil_append]
  refine run_nil ?_
  refine St.then_n ?_
  refine any_next (by (apply Beh.keep (i := 5) (by kernel_rfl) rfl (rd_load rfl row3 (cells_pts1 (by repeat (first | with_reducible exact Sel.head | apply Sel.tail)) rfl))); (first | apply Beh.keep (i := 4) (by kernel_rfl) rfl (rd_fieldAddr0 rfl fld24_6) | apply Beh.keep (i := 4) (by kernel_rfl) rfl (rd_fieldAddr rfl fld24_6)); apply Beh.drop (i := 2) (by kernel_rfl); apply Beh.drop (i := 1) (by kernel_rfl); apply Beh.drop (i := 0) (by kernel_rfl); exact .nil) ?_
  refine any_run (j := 6) (by kernel_rfl) rfl ?_
  refine run_spec rfl (by decide) (by kernel_rfl) rfl (by repeat (first | exact Pick.nil | apply Pick.cons (by repeat (first | with_reducible exact Sel.head | apply Sel.tail)))) (int_spec _ _ _ _ (by first | with_reducible exact vwb_nil _ | exact Vw.sep hF (by repeat (first | with_reducible exact Sel.head | apply Sel.tail)) | exact Vw.sep hG (by repeat (first | with_reducible exact Sel.head | apply Sel.tail)) | exact Vw.sep vw_bytes (by repeat (first | with_reducible exact Sel.head | apply Sel.tail))) h7 (by first | omega | (simp only [List.length_append, List.length_nil, List.length_cons]; omega))) ?_
  rintro v7 -
  try simp only [List.cons_append, List.nil_append]
  refine run_nil ?_
  refine St.then_n ?_
  refine any_next (by apply Beh.drop (i := 5) (by kernel_rfl); apply Beh.drop (i := 4) (by kernel_rfl); exact .nil) ?_
  refine any_take (i := 7) (by kernel_rfl) rfl rfl (by decide) (fun _ _ _ _ _ h => h) rfl (rd_assign rfl) ?_
  refine any_nil (by kernel_rfl) ?_
  refine St.keep (β' := [(4, _)]) ⟨rfl, trivial⟩ ?_
  refine St.then_n ?_
  refine do_ret ?_
  refine do_ret1 Try.results113 (res_tmp rfl) ?_
  intro w hw
  refine ⟨v7, trivial, rfl, ?_⟩
  exact hw.sub (.cons (sel_bytes (by repeat (first | with_reducible exact Sel.head | apply Sel.tail)) (by simp only [opB, txt, List.append_assoc])) (.cons (by repeat (first | with_reducible exact Sel.head | apply Sel.tail)) .nil))
end Go.Proofs.Ytglcmlicfmmlpaa
