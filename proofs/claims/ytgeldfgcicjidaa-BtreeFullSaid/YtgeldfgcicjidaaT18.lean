/-
  What must come of fixed calls.
-/
import Derived.Test.YtgeldfgcicjidaaT17
namespace Go.Proofs.Ytgeldfgcicjidaa
open Go.RowKit
set_option linter.unusedSimpArgs false
set_option linter.unusedVariables false

theorem rt_ok {S : PS} {k dep r : Nat} {g : List KV → List KV} {l : List KV} {root : Int} {y : Bool × PS × Int} (h : RtR S k dep r g l root y) (hf : 3 * (dep + 1) + 2 ≤ S.fre.length) : ∃ S' root', y = (true, S', root') ∧ RtOk S S' k dep r g l root' := by
  obtain ⟨ok, S', root'⟩ := y
  cases ok with
  | false => have := (h.2 rfl).2.2.1; omega
  | true => exact ⟨S', root', rfl, h.1 rfl⟩
theorem vwb_one (g T : Nat) (b : UInt8) (z : Int) (hz : bcell b = .int .u8 z) : VwB (pts g T [.int .u8 z]) (.slice (some ⟨g, 0, none⟩) 1 1) [b] := by rw [← hz]; exact vw_pts (by decide) (by decide) rfl rfl
theorem isR_nil {S : PS} : IsR S 0 0 (-1) [] := .inl ⟨rfl, rfl, rfl, rfl⟩
theorem sel_all (l : List KV) : sel [] [] l = l := List.filter_eq_self.2 fun x _ => by
  have : 0 ≤ cmpB x.1 [] := by
    cases x.1 with
    | nil => decide
    | cons a b => simp [cmpB, Go.Lib.compareBytes]
  simp [inR, this]
theorem q_of {L : List Pm} {l : List KV} (h : L.map Pm.kv = l) (hd : ∀ x ∈ L, x.del = false) : L.map Pm.q = l.map fun x => (x.1, x.2, false) := by
  rw [← h, List.map_map]
  exact List.map_congr_left fun x hx => by show (x.k, x.b, x.del) = _; rw [hd x hx]; rfl
abbrev kn1 : List KV := putL [98] [1] []
abbrev kn2 : List KV := putL [97] [2] kn1
abbrev kn3 : List KV := putL [98] [3] kn2
theorem kn3_eq : kn3 = [([97], [2]), ([98], [3])] := by decide
theorem kn_ok (k b : UInt8) : okKV ([k], [b]) := ⟨Nat.le_refl 1, by show 1 ≤ 24; decide, by show 1 ≤ 80; decide⟩
set_option maxHeartbeats 2000000 in
theorem known_spec (F : HP) : Spec Try.prog 7 [] [] F (fun _ : Unit => True) (fun _ => .bool true) (fun _ => []) := by
  intro ω w hh
  refine enter Try.func7 rfl Try.ntmps7 rfl hh ?_
  simp only [List.nil_append, argsB]
  have hs1 : KSrt kn1 := (put_ok (kn_ok 98 1)).srt _ List.Pairwise.nil
  have hs2 : KSrt kn2 := (put_ok (kn_ok 97 2)).srt _ hs1
  have hs3 : KSrt kn3 := (put_ok (kn_ok 98 3)).srt _ hs2
  refine sr ?_
  refine rr (rd_assign rfl) ?_
  refine nx ?_
  refine sr ?_
  refine rc (hs := pages_spec _ 100 (by decide) (by decide)) (k := ?_)
  rintro ⟨d, p⟩ -
  try simp only [List.cons_append, List.nil_append]
  refine rr (rd_move rfl) ?_
  refine rr (rd_extract rfl rfl) ?_
  refine rr (rd_extract rfl rfl) ?_
  refine rr (rd_assign rfl) ?_
  refine rr (rd_assign rfl) ?_
  refine run_nil ?_
  refine St.kp [(2, _)] ?_
  refine St.then_n ?_
  refine do_seq ?_
  refine sr ?_
  refine rr (rd_move rfl) ?_
  refine rr (rd_ptr_eq_nil Try.underlying26 rfl rfl) ?_
  refine nx ?_
  refine do_cond_f rfl ?_
  refine do_skip ?_
  refine St.then_n ?_
  refine sr ?_
  refine rr (rd_move rfl) ?_
  refine rc (hs := btNew_spec _ p (-1) (by decide)) (k := ?_)
  rintro t -
  try simp only [List.cons_append, List.nil_append]
  refine rr (rd_move rfl) ?_
  refine rr (rd_extract rfl rfl) ?_
  refine rr (rd_extract rfl rfl) ?_
  refine rr (rd_assign rfl) ?_
  refine rr (rd_assign rfl) ?_
  refine run_nil ?_
  refine St.kp [(3, _), (4, _)] ?_
  refine St.then_n ?_
  refine do_seq ?_
  refine sr ?_
  refine rr (rd_move rfl) ?_
  refine rr ((rd_ne rfl rfl).eq (show _ = Value.bool false from rfl)) ?_
  refine rr (rd_move rfl) ?_
  first | refine sk ?_ | (refine rr (rd_move rfl) ?_)
  first | refine sk ?_ | (refine rr (rd_ptr_eq_nil Try.underlying29 rfl rfl) ?_)
  refine rr (rd_pick rfl rfl) ?_
  refine run_nil ?_
  refine St.kp [(3, _), (24, _)] ?_
  refine St.then_n ?_
  refine do_cond_f rfl ?_
  refine do_skip ?_
  refine St.then_n ?_
  refine sr ?_
  refine rr (rd_move rfl) ?_
  refine run_buildSlice (l := [(Operand.const (Value.int IntKind.u8 1))]) rfl (by decide) Try.underlying44 ei5 rfl rfl (by decide) (by decide) (fun b26 => ?_)
  simp only [joinL, cells_agg, cells_int, cells_bcell, cells_bool, cells_string, cells_pointer, cells_slice, cells_map, cells_func, List.cons_append, List.nil_append, List.append_nil]
  refine rc (hs := btPut_spec _ t p d 102 (-1) (pg0 100) (pg0_good (by decide)) 0 0 [] isR_nil List.Pairwise.nil [98] [1] (some ⟨b26, 0, none⟩) 1 (Vw.sep (vwb_one _ 5 1 1 rfl) (by repeat (first | with_reducible exact Sel.head | apply Sel.tail))) (kn_ok 98 1)) (k := ?_)
  rintro y1 hy1
  obtain ⟨S1, rt1, rfl, hr1⟩ := rt_ok hy1 (by rw [pg0_fre _ (by decide)]; decide)
  obtain ⟨d1, r1, hT1, hd1, -⟩ := hr1.tree
  have hc1 := hr1.cnt
  rw [pg0_fre _ (by decide)] at hc1
  have hg1 := hr1.ext.good (pg0_good (by decide))
  dsimp only
  try simp only [List.cons_append, List.nil_append]
  refine run_nil ?_
  refine St.kp [(3, _)] ?_
  refine St.then_n ?_
  refine sr ?_
  refine rr (rd_move rfl) ?_
  refine run_buildSlice (l := [(Operand.const (Value.int IntKind.u8 2))]) rfl (by decide) Try.underlying44 ei5 rfl rfl (by decide) (by decide) (fun b29 => ?_)
  simp only [joinL, cells_agg, cells_int, cells_bcell, cells_bool, cells_string, cells_pointer, cells_slice, cells_map, cells_func, List.cons_append, List.nil_append, List.append_nil]
  refine rc (hs := btPut_spec _ t p d 102 rt1 S1 hg1 d1 r1 kn1 hT1 hs1 [97] [2] (some ⟨b29, 0, none⟩) 1 (Vw.sep (vwb_one _ 5 2 2 rfl) (by repeat (first | with_reducible exact Sel.head | apply Sel.tail))) (kn_ok 97 2)) (k := ?_)
  rintro y2 hy2
  obtain ⟨S2, rt2, rfl, hr2⟩ := rt_ok hy2 (by omega)
  obtain ⟨d2, r2, hT2, hd2, -⟩ := hr2.tree
  have hc2 := hr2.cnt
  have hg2 := hr2.ext.good hg1
  dsimp only
  try simp only [List.cons_append, List.nil_append]
  refine nx ?_
  refine sr ?_
  refine rr (rd_move rfl) ?_
  refine run_buildSlice (l := [(Operand.const (Value.int IntKind.u8 3))]) rfl (by decide) Try.underlying44 ei5 rfl rfl (by decide) (by decide) (fun b32 => ?_)
  simp only [joinL, cells_agg, cells_int, cells_bcell, cells_bool, cells_string, cells_pointer, cells_slice, cells_map, cells_func, List.cons_append, List.nil_append, List.append_nil]
  refine rc (hs := btPut_spec _ t p d 102 rt2 S2 hg2 d2 r2 kn2 hT2 hs2 [98] [3] (some ⟨b32, 0, none⟩) 1 (Vw.sep (vwb_one _ 5 3 3 rfl) (by repeat (first | with_reducible exact Sel.head | apply Sel.tail))) (kn_ok 98 3)) (k := ?_)
  rintro y3 hy3
  obtain ⟨S3, rt3, rfl, hr3⟩ := rt_ok hy3 (by omega)
  obtain ⟨d3, r3, hT3, hd3, -⟩ := hr3.tree
  have hc3 := hr3.cnt
  have hg3 := hr3.ext.good hg2
  dsimp only
  try simp only [List.cons_append, List.nil_append]
  refine rr (rd_assign rfl) ?_
  refine run_nil ?_
  refine St.kp [(3, _), (5, _)] ?_
  refine St.then_n ?_
  refine sr ?_
  refine rr (rd_move rfl) ?_
  refine rc (hs := btDel0_spec _ t p d 102 rt3 S3 hg3 d3 r3 kn3 hT3 hs3 [99] (by rw [kn3_eq]; decide)) (k := ?_)
  rintro ⟨⟩ -
  try simp only [List.cons_append, List.nil_append]
  refine rr (rd_move rfl) ?_
  refine rr (rd_extract rfl rfl) ?_
  refine rr (rd_extract rfl rfl) ?_
  refine rr (rd_assign rfl) ?_
  refine rr (rd_assign rfl) ?_
  refine run_nil ?_
  refine St.kp [(3, _), (5, _), (6, _), (7, _)] ?_
  refine St.then_n ?_
  refine sr ?_
  refine rr (rd_move rfl) ?_
  refine rr ((rd_eq rfl rfl).eq (show _ = Value.bool true from rfl)) ?_
  refine rr (rd_move rfl) ?_
  first | refine sk ?_ | (refine rr (rd_move rfl) ?_)
  first | refine sk ?_ | (refine rr (rd_not rfl) ?_)
  refine rr (rd_pick rfl rfl) ?_
  refine rr (rd_move rfl) ?_
  first | refine sk ?_ | (refine rr (rd_move rfl) ?_)
  first | refine sk ?_ | (refine rr ((rd_eq rfl rfl).eq (show _ = Value.bool true from rfl)) ?_)
  refine rr (rd_pick rfl rfl) ?_
  refine rr (rd_move rfl) ?_
  first | refine sk ?_ | (refine rr (rd_move rfl) ?_)
  first
    | refine sk ?_
    | (refine rc (hs := all_spec _ t p d 102 rt3 S3 hg3 d3 r3 kn3 hT3 hs3 [] [] (by rw [sel_all, kn3_eq]; decide)) (k := ?_)
       rintro ⟨⟨A4, c4⟩, L4⟩ ⟨hL4, hd4⟩
       dsimp only at hL4 hd4 ⊢
       rw [sel_all, kn3_eq] at hL4
       have hl4 : L4.length = 2 := by have := congrArg List.length hL4; rwa [List.length_map] at this
       rw [hl4]
       try simp only [List.cons_append, List.nil_append])
  first
    | refine sk ?_
    | (refine run_buildSlice (l := [(Operand.const (Value.int IntKind.u8 2))]) rfl (by decide) Try.underlying44 ei5 rfl rfl (by decide) (by decide) (fun b52 => ?_)
       simp only [joinL, cells_agg, cells_int, cells_bcell, cells_bool, cells_string, cells_pointer, cells_slice, cells_map, cells_func, List.cons_append, List.nil_append, List.append_nil])
  first | refine sk ?_ | (refine rr (rd_bd [_, _, _] zero55 plc55) ?_)
  first
    | refine sk ?_
    | (refine run_buildSlice (l := [(Operand.const (Value.int IntKind.u8 3))]) rfl (by decide) Try.underlying44 ei5 rfl rfl (by decide) (by decide) (fun b54 => ?_)
       simp only [joinL, cells_agg, cells_int, cells_bcell, cells_bool, cells_string, cells_pointer, cells_slice, cells_map, cells_func, List.cons_append, List.nil_append, List.append_nil])
  first | refine sk ?_ | (refine rr (rd_bd [_, _, _] zero55 plc55) ?_)
  first
    | refine sk ?_
    | (refine run_buildSlice (l := [(Operand.tmp 53), (Operand.tmp 55)]) rfl (by decide) Try.underlying22 ei55 rfl rfl (by decide) (by decide) (fun b56 => ?_)
       simp only [joinL, cells_agg, cells_int, cells_bcell, cells_bool, cells_string, cells_pointer, cells_slice, cells_map, cells_func, List.cons_append, List.nil_append, List.append_nil])
  first
    | refine sk ?_
    | (refine rc (hs := sameP_spec _ A4 (some ⟨b56, 0, none⟩) 2 c4 2 L4 [⟨[97], some ⟨b52, 0, none⟩, 1, [2], false⟩, ⟨[98], some ⟨b54, 0, none⟩, 1, [3], false⟩] (Vw.sep (vw_Q (f := prC)) (by repeat (first | with_reducible exact Sel.head | apply Sel.tail))) (fun x hx => Vw.sep (pr_vw hx) (by repeat (first | with_reducible exact Sel.head | apply Sel.tail))) (Vw.sep (X := pts b56 55 _) (vw_pts (by decide) (by decide) rfl rfl) (by repeat (first | with_reducible exact Sel.head | apply Sel.tail))) (fun x hx => by rcases List.mem_cons.1 hx with rfl | hx; exact Vw.sep (vwb_one b52 5 2 2 rfl) (by repeat (first | with_reducible exact Sel.head | apply Sel.tail)); rw [List.mem_singleton.1 hx]; exact Vw.sep (vwb_one b54 5 3 3 rfl) (by repeat (first | with_reducible exact Sel.head | apply Sel.tail))) hl4 (by rw [q_of hL4 hd4]; rfl)) (k := ?_)
       rintro ⟨⟩ -
       try simp only [List.cons_append, List.nil_append])
  refine rr (rd_pick rfl rfl) ?_
  refine rr (rd_assign rfl) ?_
  refine run_nil ?_
  refine St.kp [(0, _)] ?_
  refine St.then_n ?_
  refine do_ret ?_
  refine do_ret1 Try.results7 (res_tmp rfl) ?_
  intro w hw
  exact ⟨(), trivial, rfl, hw.sb⟩
end Go.Proofs.Ytgeldfgcicjidaa
