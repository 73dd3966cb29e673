/-
  A string's bytes as a slice, by parts; the reference's texts.
-/
import Derived.Lib.ConvBytes
import Derived.Laws.AppendOwn
import Derived.Test.YtglcmlicfmmlpaaC12
namespace Go.Proofs.Ytglcmlicfmmlpaa
open Go.RowKit
set_option linter.unusedSimpArgs false
set_option linter.unusedVariables false

/-- Bytes that can be read. -/
def vwO (v : Value) (bs : List UInt8) : HP := fun h => SlP h v 1 bs.length (bs.map bcell)
theorem vw_vwO {v : Value} {bs : List UInt8} : VwB (vwO v bs) v bs := fun _ h => h
section
variable {P : Program} {ω : Amb} {m : Nat} {ds : List Deferred} {Γ : List HP} {β : List (Nat × Value)} {r : Option Nat} {ops : Array Oper} {Q : Exit → Act → World → Prop} {rest : List Oper}
theorem run_str_bytes {d : Nat} {src dst e ty : TypeId} {pos : String} {af : Array Edge} {gd : Option (Nat × Bool)} {x : Operand} {bs : List UInt8} {u : TypeDesc} (hw : wants ops β gd = some true) (hd : d < m)
    (h1 : P.underlying src = some u) (h2 : P.underlying dst = some (.slice e)) (h3 : P.underlying e = some (.int .u8)) (hx : ev β x = some (.string (strOf bs))) (hl : bs.length ≤ 140737488355328)
    (k : ∀ v, St ω m ds (vwO v bs :: Γ) ((d, v) :: β) (Run P r ops Q rest)) : St ω m ds Γ β (Run P r ops Q (⟨some d, .convert src dst x, ty, pos, af, gd⟩ :: rest)) := by
  intro a w hh hb
  have hc := Lib.run_convert_string_bytes (P := P) w src dst e (strOf bs) h1 h2 h3
  have hr : (execOp a.eval ⟨some d, .convert src dst x, ty, pos, af, gd⟩).run P w = .ok (.value (.slice (some ⟨w.heap.size, 0, none⟩) (strOf bs).size (grownCap w (strOf bs).size 0 e))) (Lib.bytesWorld w e (strOf bs)) := by
    simp [execOp, hb.eval hx, hc]
  have hsz : (strOf bs).size = bs.length := by simp [ByteArray.size]
  refine wpListIn_ran (fun f => wd_fn r f) (wanted_of hb hw) ⟨by simp, .inl ⟨_, hr, rfl⟩⟩ (k _ _ _ ?_ (hb.put hd _))
  have hf : Fr nowhere w (Lib.bytesWorld w e (strOf bs)) := ⟨rfl, rfl, rfl, by rw [Lib.bytesWorld_size]; omega, fun j hj _ => Lib.bytesWorld_at_old w e _ j hj⟩
  refine hh.more hf (Part.one w.heap.size (.cells (Lib.bytesCells w e (strOf bs)) e ((Lib.bytesCells w e (strOf bs)).size, (Lib.bytesCells w e (strOf bs)).size + 1))) (fun y o e' => ?_) ?_
  · unfold Part.one at e'
    split at e'
    · rename_i hy; subst hy; cases e'; exact ⟨Nat.le_refl _, Lib.bytesWorld_at_new w e _⟩
    · cases e'
  · rw [hsz]
    refine ⟨_, _, rfl, grownCap_ge _ _ _ _, grownCap_le_maxLen _ _ _ _ (by simp [maxLen]; omega), by simp, fun _ => ⟨_, 0, _, _, _, rfl, Part.one_self _ _, fun j u hu => ?_⟩⟩
    have hj := (List.getElem?_eq_some_iff.1 hu).1
    rw [List.length_map] at hj
    rw [List.getElem?_map] at hu
    simp only [Nat.zero_add, Lib.bytesCells]
    rw [Array.getElem?_append_left (by simpa [strOf] using hj)]
    simp only [Array.getElem?_map, List.getElem?_toArray]
    exact hu
end
theorem refText_spec (F : HP) (v : Value) (bs s : List UInt8) (hF : VwB F v bs) (hs : s.length ≤ 1099511627776) (hl : bs.length ≤ 70368744177664) :
    Spec Try.prog 116 [v, .string (strOf s)] [] F (fun _ : Value => True) (fun v' => v') (fun v' => [bytesO v' (bs ++ uvar s.length ++ s)]) := by
  intro ω w hh
  refine enter Try.func116 rfl Try.ntmps116 rfl hh ?_
  simp only [List.nil_append, argsB]
  refine do_seq ?_
  refine do_region ?_
  refine run_read rfl (by decide) (fun _ => nofun) (rd_assign rfl) ?_
  refine run_nil ?_
  refine St.then_n ?_
  refine do_seq ?_
  refine do_region ?_
  refine run_read rfl (by decide) (fun _ => nofun) (rd_move rfl) ?_
  refine run_read rfl (by decide) (fun _ => nofun) (rd_move rfl) ?_
  refine run_str_bytes rfl (by decide) Try.underlying9 Try.underlying26 Try.underlying5 rfl (by omega) (fun v1 => ?_)
  refine run_spec rfl (by decide) (by kernel_rfl) rfl (by repeat (first | exact Pick.nil | apply Pick.cons (by repeat (first | with_reducible exact Sel.head | apply Sel.tail)))) (refByt_spec _ v v1 bs s (hF.sep (by repeat (first | with_reducible exact Sel.head | apply Sel.tail))) (vw_vwO.sep (by repeat (first | with_reducible exact Sel.head | apply Sel.tail))) hs hl) ?_
  rintro v2 -
  try simp only [List.cons_append, List.nil_append]
  refine run_read rfl (by decide) (fun _ => nofun) (rd_assign rfl) ?_
  refine run_nil ?_
  refine St.keep (β' := [(4, _)]) ⟨rfl, trivial⟩ ?_
  refine St.then_n ?_
  refine do_ret ?_
  refine do_ret1 Try.results116 (res_tmp rfl) ?_
  intro w hw
  exact ⟨v2, trivial, rfl, hw.sub (by repeat (first | exact Pick.nil | apply Pick.cons (by repeat (first | with_reducible exact Sel.head | apply Sel.tail))))⟩
theorem refBool_spec (F : HP) (v : Value) (bs : List UInt8) (b : Bool) (hF : VwB F v bs) (hl : bs.length ≤ 70368744177664) :
    Spec Try.prog 80 [v, .bool b] [] F (fun _ : Value => True) (fun v' => v') (fun v' => [bytesO v' (bs ++ uvar (bnat b))]) := by
  intro ω w hh
  refine enter Try.func80 rfl Try.ntmps80 rfl hh ?_
  simp only [List.nil_append, argsB]
  refine do_seq ?_
  refine do_region ?_
  refine run_read rfl (by decide) (fun _ => nofun) (rd_assign rfl) ?_
  refine run_nil ?_
  refine St.then_n ?_
  refine do_seq ?_
  refine do_seq ?_
  refine do_region ?_
  refine run_read rfl (by decide) (fun _ => nofun) (rd_move rfl) ?_
  refine run_nil ?_
  refine St.then_n ?_
  first | refine do_condp rfl (fun h5 => ?_) (fun h5 => ?_) | refine do_cond rfl (fun h5 => ?_) (fun h5 => ?_)
  · subst h5
    refine do_seq ?_
    refine do_region ?_
    refine run_read rfl (by decide) (fun _ => nofun) (rd_move rfl) ?_
    refine run_spec rfl (by decide) (by kernel_rfl) rfl (by repeat (first | exact Pick.nil | apply Pick.cons (by repeat (first | with_reducible exact Sel.head | apply Sel.tail)))) (refUint_spec _ v bs (bnat true) (hF.sep (by repeat (first | with_reducible exact Sel.head | apply Sel.tail))) (by decide) hl) ?_
    rintro v' -
    try simp only [List.cons_append, List.nil_append]
    refine run_read rfl (by decide) (fun _ => nofun) (rd_assign rfl) ?_
    refine run_nil ?_
    refine St.keep (β' := [(4, _)]) ⟨rfl, trivial⟩ ?_
    refine St.then_n ?_
    refine do_ret ?_
    refine St.then_r ?_
    refine do_ret1 Try.results80 (res_tmp rfl) ?_
    intro w hw
    exact ⟨_, trivial, rfl, hw.sub (by repeat (first | exact Pick.nil | apply Pick.cons (by repeat (first | with_reducible exact Sel.head | apply Sel.tail))))⟩
  · subst h5
    refine do_skip ?_
    refine St.then_n ?_
    refine do_seq ?_
    refine do_region ?_
    refine run_read rfl (by decide) (fun _ => nofun) (rd_move rfl) ?_
    refine run_spec rfl (by decide) (by kernel_rfl) rfl (by repeat (first | exact Pick.nil | apply Pick.cons (by repeat (first | with_reducible exact Sel.head | apply Sel.tail)))) (refUint_spec _ v bs (bnat false) (hF.sep (by repeat (first | with_reducible exact Sel.head | apply Sel.tail))) (by decide) hl) ?_
    rintro v' -
    try simp only [List.cons_append, List.nil_append]
    refine run_read rfl (by decide) (fun _ => nofun) (rd_assign rfl) ?_
    refine run_nil ?_
    refine St.keep (β' := [(4, _)]) ⟨rfl, trivial⟩ ?_
    refine St.then_n ?_
    refine do_ret ?_
    refine do_ret1 Try.results80 (res_tmp rfl) ?_
    intro w hw
    exact ⟨_, trivial, rfl, hw.sub (by repeat (first | exact Pick.nil | apply Pick.cons (by repeat (first | with_reducible exact Sel.head | apply Sel.tail))))⟩
set_option maxRecDepth 4000 in
theorem refPutOp_spec (F : HP) (v : Value) (bs : List UInt8) (o : GOp) (hF : VwB F v bs) (ho : o.ok) (hl : bs.length ≤ 35184372088832) :
    Spec Try.prog 115 [v, .agg o.L.toArray] [] F (fun _ : Value => True) (fun v' => v') (fun v' => [bytesO v' (bs ++ opB o)]) := by
  intro ω w hh
  refine enter Try.func115 rfl Try.ntmps115 rfl hh ?_
  simp only [List.nil_append, argsB]
  obtain ⟨kind, src, dst, amt, key, slot, shard⟩ := o
  obtain ⟨h1, h2, h3, h4, h5, h6, h7⟩ := ho
  dsimp only at h1 h2 h3 h4 h5 h6 h7 ⊢
  have l1 := ivar_len h1
  have l2 := uvar_len64 (n := src.length) (by unfold shortS at h2; omega)
  have l3 := uvar_len64 (n := dst.length) (by unfold shortS at h3; omega)
  have l4 := ivar_len h4
  have l5 := uvar_len64 (n := key.length) (by unfold shortS at h5; omega)
  have l6 := ivar_len h6
  have l7 := ivar_len h7
  unfold i64r shortS at *
  refine do_seq ?_
  refine do_region ?_
  refine run_box_row rfl (by decide) rfl (fun b3 => ?_)
  refine run_read rfl (by decide) (fun _ => nofun) (rd_assign rfl) ?_
  refine run_nil ?_
  refine St.then_n ?_
  refine do_seq ?_
  refine do_region ?_
  refine run_read rfl (by decide) (fun _ => nofun) (rd_move rfl) ?_
  first | refine run_read rfl (by decide) (fun _ => nofun) (rd_fieldAddr0 rfl fld24_0) ?_ | refine run_read rfl (by decide) (fun _ => nofun) (rd_fieldAddr rfl fld24_0) ?_
  refine run_read rfl (by decide) (fun _ => nofun) (rd_load rfl row3 (cells_pts1 (by repeat (first | with_reducible exact Sel.head | apply Sel.tail)) rfl)) ?_
  refine run_spec rfl (by decide) (by kernel_rfl) rfl (by repeat (first | exact Pick.nil | apply Pick.cons (by repeat (first | with_reducible exact Sel.head | apply Sel.tail)))) (refInt_spec _ _ _ _ (by first | with_reducible exact vwb_nil _ | exact Vw.sep hF (by repeat (first | with_reducible exact Sel.head | apply Sel.tail)) | exact Vw.sep hG (by repeat (first | with_reducible exact Sel.head | apply Sel.tail)) | exact Vw.sep vw_bytes (by repeat (first | with_reducible exact Sel.head | apply Sel.tail))) h1 (by first | omega | (simp only [List.length_append, List.length_nil, List.length_cons]; omega))) ?_
  rintro v1 -
  try simp only [List.cons_append, List.nil_append]
  refine run_read rfl (by decide) (fun _ => nofun) (rd_assign rfl) ?_
  refine run_nil ?_
  refine St.keep (β' := [(0, _), (3, _)]) ⟨rfl, rfl, trivial⟩ ?_
  refine St.then_n ?_
  refine do_seq ?_
  refine do_region ?_
  refine run_read rfl (by decide) (fun _ => nofun) (rd_move rfl) ?_
  first | refine run_read rfl (by decide) (fun _ => nofun) (rd_fieldAddr0 rfl fld24_1) ?_ | refine run_read rfl (by decide) (fun _ => nofun) (rd_fieldAddr rfl fld24_1) ?_
  refine run_read rfl (by decide) (fun _ => nofun) (rd_load rfl row9 (cells_pts1 (by repeat (first | with_reducible exact Sel.head | apply Sel.tail)) rfl)) ?_
  refine run_spec rfl (by decide) (by kernel_rfl) rfl (by repeat (first | exact Pick.nil | apply Pick.cons (by repeat (first | with_reducible exact Sel.head | apply Sel.tail)))) (refText_spec _ _ _ _ (by first | with_reducible exact vwb_nil _ | exact Vw.sep hF (by repeat (first | with_reducible exact Sel.head | apply Sel.tail)) | exact Vw.sep hG (by repeat (first | with_reducible exact Sel.head | apply Sel.tail)) | exact Vw.sep vw_bytes (by repeat (first | with_reducible exact Sel.head | apply Sel.tail))) h2 (by first | omega | (simp only [List.length_append, List.length_nil, List.length_cons]; omega))) ?_
  rintro v2 -
  try simp only [List.cons_append, List.nil_append]
  refine run_read rfl (by decide) (fun _ => nofun) (rd_assign rfl) ?_
  refine run_nil ?_
  refine St.keep (β' := [(0, _), (3, _)]) ⟨rfl, rfl, trivial⟩ ?_
  refine St.then_n ?_
  refine do_seq ?_
  refine do_region ?_
  refine run_read rfl (by decide) (fun _ => nofun) (rd_move rfl) ?_
  first | refine run_read rfl (by decide) (fun _ => nofun) (rd_fieldAddr0 rfl fld24_2) ?_ | refine run_read rfl (by decide) (fun _ => nofun) (rd_fieldAddr rfl fld24_2) ?_
  refine run_read rfl (by decide) (fun _ => nofun) (rd_load rfl row9 (cells_pts1 (by repeat (first | with_reducible exact Sel.head | apply Sel.tail)) rfl)) ?_
  refine run_spec rfl (by decide) (by kernel_rfl) rfl (by repeat (first | exact Pick.nil | apply Pick.cons (by repeat (first | with_reducible exact Sel.head | apply Sel.tail)))) (refText_spec _ _ _ _ (by first | with_reducible exact vwb_nil _ | exact Vw.sep hF (by repeat (first | with_reducible exact Sel.head | apply Sel.tail)) | exact Vw.sep hG (by repeat (first | with_reducible exact Sel.head | apply Sel.tail)) | exact Vw.sep vw_bytes (by repeat (first | with_reducible exact Sel.head | apply Sel.tail))) h3 (by first | omega | (simp only [List.length_append, List.length_nil, List.length_cons]; omega))) ?_
  rintro v3 -
  try simp only [List.cons_append, List.nil_append]
  refine run_read rfl (by decide) (fun _ => nofun) (rd_assign rfl) ?_
  refine run_nil ?_
  refine St.keep (β' := [(0, _), (3, _)]) ⟨rfl, rfl, trivial⟩ ?_
  refine St.then_n ?_
  refine do_seq ?_
  refine do_region ?_
  refine run_read rfl (by decide) (fun _ => nofun) (rd_move rfl) ?_
  first | refine run_read rfl (by decide) (fun _ => nofun) (rd_fieldAddr0 rfl fld24_3) ?_ | refine run_read rfl (by decide) (fun _ => nofun) (rd_fieldAddr rfl fld24_3) ?_
  refine run_read rfl (by decide) (fun _ => nofun) (rd_load rfl row2 (cells_pts1 (by repeat (first | with_reducible exact Sel.head | apply Sel.tail)) rfl)) ?_
  refine run_spec rfl (by decide) (by kernel_rfl) rfl (by repeat (first | exact Pick.nil | apply Pick.cons (by repeat (first | with_reducible exact Sel.head | apply Sel.tail)))) (refInt_spec _ _ _ _ (by first | with_reducible exact vwb_nil _ | exact Vw.sep hF (by repeat (first | with_reducible exact Sel.head | apply Sel.tail)) | exact Vw.sep hG (by repeat (first | with_reducible exact Sel.head | apply Sel.tail)) | exact Vw.sep vw_bytes (by repeat (first | with_reducible exact Sel.head | apply Sel.tail))) h4 (by first | omega | (simp only [List.length_append, List.length_nil, List.length_cons]; omega))) ?_
  rintro v4 -
  try simp only [List.cons_append, List.nil_append]
  refine run_read rfl (by decide) (fun _ => nofun) (rd_assign rfl) ?_
  refine run_nil ?_
  refine St.keep (β' := [(0, _), (3, _)]) ⟨rfl, rfl, trivial⟩ ?_
  refine St.then_n ?_
  refine do_seq ?_
  refine do_region ?_
  refine run_read rfl (by decide) (fun _ => nofun) (rd_move rfl) ?_
  first | refine run_read rfl (by decide) (fun _ => nofun) (rd_fieldAddr0 rfl fld24_4) ?_ | refine run_read rfl (by decide) (fun _ => nofun) (rd_fieldAddr rfl fld24_4) ?_
  refine run_read rfl (by decide) (fun _ => nofun) (rd_load rfl row9 (cells_pts1 (by repeat (first | with_reducible exact Sel.head | apply Sel.tail)) rfl)) ?_
  refine run_spec rfl (by decide) (by kernel_rfl) rfl (by repeat (first | exact Pick.nil | apply Pick.cons (by repeat (first | with_reducible exact Sel.head | apply Sel.tail)))) (refText_spec _ _ _ _ (by first | with_reducible exact vwb_nil _ | exact Vw.sep hF (by repeat (first | with_reducible exact Sel.head | apply Sel.tail)) | exact Vw.sep hG (by repeat (first | with_reducible exact Sel.head | apply Sel.tail)) | exact Vw.sep vw_bytes (by repeat (first | with_reducible exact Sel.head | apply Sel.tail))) h5 (by first | omega | (simp only [List.length_append, List.length_nil, List.length_cons]; omega))) ?_
  rintro v5 -
  try simp only [List.cons_append, List.nil_append]
  refine run_read rfl (by decide) (fun _ => nofun) (rd_assign rfl) ?_
  refine run_nil ?_
  refine St.keep (β' := [(0, _), (3, _)]) ⟨rfl, rfl, trivial⟩ ?_
  refine St.then_n ?_
  refine do_seq ?_
  refine do_region ?_
  refine run_read rfl (by decide) (fun _ => nofun) (rd_move rfl) ?_
  first | refine run_read rfl (by decide) (fun _ => nofun) (rd_fieldAddr0 rfl fld24_5) ?_ | refine run_read rfl (by decide) (fun _ => nofun) (rd_fieldAddr rfl fld24_5) ?_
  refine run_read rfl (by decide) (fun _ => nofun) (rd_load rfl row3 (cells_pts1 (by repeat (first | with_reducible exact Sel.head | apply Sel.tail)) rfl)) ?_
  refine run_spec rfl (by decide) (by kernel_rfl) rfl (by repeat (first | exact Pick.nil | apply Pick.cons (by repeat (first | with_reducible exact Sel.head | apply Sel.tail)))) (refInt_spec _ _ _ _ (by first | with_reducible exact vwb_nil _ | exact Vw.sep hF (by repeat (first | with_reducible exact Sel.head | apply Sel.tail)) | exact Vw.sep hG (by repeat (first | with_reducible exact Sel.head | apply Sel.tail)) | exact Vw.sep vw_bytes (by repeat (first | with_reducible exact Sel.head | apply Sel.tail))) h6 (by first | omega | (simp only [List.length_append, List.length_nil, List.length_cons]; omega))) ?_
  rintro v6 -
  try simp only [List.cons_append, List.nil_append]
  refine run_read rfl (by decide) (fun _ => nofun) (rd_assign rfl) ?_
  refine run_nil ?_
  refine St.keep (β' := [(0, _), (3, _)]) ⟨rfl, rfl, trivial⟩ ?_
  refine St.then_n ?_
  refine do_seq ?_
  refine do_region ?_
  refine run_read rfl (by decide) (fun _ => nofun) (rd_move rfl) ?_
  first | refine run_read rfl (by decide) (fun _ => nofun) (rd_fieldAddr0 rfl fld24_6) ?_ | refine run_read rfl (by decide) (fun _ => nofun) (rd_fieldAddr rfl fld24_6) ?_
  refine run_read rfl (by decide) (fun _ => nofun) (rd_load rfl row3 (cells_pts1 (by repeat (first | with_reducible exact Sel.head | apply Sel.tail)) rfl)) ?_
  refine run_spec rfl (by decide) (by kernel_rfl) rfl (by repeat (first | exact Pick.nil | apply Pick.cons (by repeat (first | with_reducible exact Sel.head | apply Sel.tail)))) (refInt_spec _ _ _ _ (by first | with_reducible exact vwb_nil _ | exact Vw.sep hF (by repeat (first | with_reducible exact Sel.head | apply Sel.tail)) | exact Vw.sep hG (by repeat (first | with_reducible exact Sel.head | apply Sel.tail)) | exact Vw.sep vw_bytes (by repeat (first | with_reducible exact Sel.head | apply Sel.tail))) h7 (by first | omega | (simp only [List.length_append, List.length_nil, List.length_cons]; omega))) ?_
  rintro v7 -
  try simp only [List.cons_append, List.nil_append]
  refine run_read rfl (by decide) (fun _ => nofun) (rd_assign rfl) ?_
  refine run_nil ?_
  refine St.keep (β' := [(4, _)]) ⟨rfl, trivial⟩ ?_
  refine St.then_n ?_
  refine do_ret ?_
  refine do_ret1 Try.results115 (res_tmp rfl) ?_
  intro w hw
  refine ⟨v7, trivial, rfl, ?_⟩
  exact hw.sub (.cons (sel_bytes (by repeat (first | with_reducible exact Sel.head | apply Sel.tail)) (by simp only [opB, txt, List.append_assoc])) (.cons (by repeat (first | with_reducible exact Sel.head | apply Sel.tail)) .nil))
end Go.Proofs.Ytglcmlicfmmlpaa
