/-
  Lent, Kept, Spoil, Count of the laws' helpers, by parts.
-/
import Derived.Test.YtglcmlicfmmlpaaC0
import Derived.Test.YtglcmlicfmmlpaaCrc
namespace Go.Proofs.Ytglcmlicfmmlpaa
open Go.RowKit
set_option linter.unusedSimpArgs false
set_option linter.unusedVariables false

/-- Bytes of one's own with a mark behind them. -/
def lentO (v : Value) (bs : List UInt8) : HP := fun h => ∃ g c, v = .slice (some ⟨g, 0, none⟩) bs.length c ∧ bytesO (.slice (some ⟨g, 0, none⟩) (bs.length + 1) c) (bs ++ [0xa7]) h
theorem lent_bytes {v : Value} {bs : List UInt8} {h : Part} (hl : lentO v bs h) : bytesO v bs h := by
  obtain ⟨g, c, rfl, hl, (⟨h1, _⟩ | ⟨g', c', tail, h1, h2, h3, h4, h5⟩)⟩ := hl
  · cases h1
  · simp only [Value.slice.injEq, Option.some.injEq, Addr.mk.injEq] at h1
    obtain ⟨⟨rfl, -, -⟩, -, rfl⟩ := h1
    refine ⟨by simp, .inr ⟨g, c, [bcell 0xa7] ++ tail, rfl, by simp at h2; omega, h3, ?_, ?_⟩⟩
    · simpa using h4
    · simpa using h5
theorem vw_lent {v : Value} {bs : List UInt8} : VwB (lentO v bs) v bs := fun h hl => vw_bytes h (lent_bytes hl)
theorem lent_spec (F : HP) (v : Value) (bs : List UInt8) (hF : VwB F v bs) (hl : bs.length ≤ 140737488351232) :
    Spec Try.prog 42 [v] [] F (fun _ : Value => True) (fun v' => v') (fun v' => [lentO v' bs]) := by
  intro ω w hh
  refine enter Try.func42 rfl Try.ntmps42 rfl hh ?_
  simp only [List.nil_append, argsB]
  refine St.vw hF .head (fun A c hv h1 h2 _ => ?_)
  subst hv
  refine do_seq ?_
  refine do_region ?_
  refine run_read rfl (by decide) (fun _ => nofun) (rd_assign rfl) ?_
  refine run_nil ?_
  refine St.then_n ?_
  refine do_seq ?_
  refine do_region ?_
  refine run_read rfl (by decide) (fun _ => nofun) (rd_assign rfl) ?_
  refine run_nil ?_
  refine St.then_n ?_
  refine do_seq ?_
  refine do_region ?_
  refine run_read rfl (by decide) (fun _ => nofun) (rd_move rfl) ?_
  refine run_read rfl (by decide) (fun _ => nofun) (rd_move rfl) ?_
  refine St.own_nil (T := 5) (k := 1) ?_
  refine run_append rfl (by decide) Try.underlying26 ei5 rfl rfl (by repeat (first | with_reducible exact Sel.head | apply Sel.tail)) (X := F) hF (by repeat (first | with_reducible exact Sel.head | apply Sel.tail)) (by simp only [List.mem_map]; rintro c ⟨b, _, rfl⟩; rfl) (by simp [maxLen]; omega) (by simp; omega) (fun v1 _ => ?_)
  simp only [List.nil_append, Nat.zero_add]
  refine run_read rfl (by decide) (fun _ => nofun) (rd_assign rfl) ?_
  refine run_nil ?_
  refine St.keep (β' := [(0, _), (3, _)]) ⟨rfl, rfl, trivial⟩ ?_
  refine St.then_n ?_
  refine do_seq ?_
  refine do_region ?_
  refine run_read rfl (by decide) (fun _ => nofun) (rd_move rfl) ?_
  refine run_buildSlice (l := [(Operand.const (Value.int IntKind.u8 167))]) rfl (by decide) Try.underlying26 ei5 rfl rfl (by decide) (by decide) (fun b8 => ?_)
  simp only [joinL, cells_agg, cells_int, cells_bcell, cells_bool, cells_string, cells_pointer, cells_slice, cells_map, cells_func, List.cons_append, List.nil_append, List.append_nil]
  refine run_append_src rfl (by decide) Try.underlying26 ei5 rfl rfl (by repeat (first | with_reducible exact Sel.head | apply Sel.tail)) (src_pts Try.underlying26 (by repeat (first | with_reducible exact Sel.head | apply Sel.tail)) rfl (by decide) rfl) (by simp; omega) (by simp [maxLen]; omega) (fun v2 hv2 => ?_)
  refine St.own_open (fun h0 h1 _ => absurd h1 (by simp)) (fun g c2 tail hg h3 h4 h5 h6 => ?_)
  subst hg
  refine run_read rfl (by decide) (fun _ => nofun) (rd_assign rfl) ?_
  refine run_nil ?_
  refine St.then_n ?_
  refine do_seq ?_
  refine do_region ?_
  refine run_read rfl (by decide) (fun _ => nofun) (rd_move rfl) ?_
  refine run_read rfl (by decide) (fun _ => nofun) (rd_move rfl) ?_
  refine run_read rfl (by decide) (fun _ => nofun) (rd_len Try.underlying26 rfl) ?_
  refine run_read rfl (by decide) (fun _ => nofun) (rd_slice (i := 0) Try.underlying26 ei5 rfl rfl rfl (by omega) (by omega) (by simp at h3 ⊢; omega)) ?_
  refine run_read rfl (by decide) (fun _ => nofun) (rd_assign rfl) ?_
  refine run_nil ?_
  refine St.keep (β' := [(2, _)]) ⟨rfl, trivial⟩ ?_
  refine St.then_n ?_
  refine do_ret ?_
  refine do_ret1 Try.results42 (res_tmp rfl) ?_
  intro w hw
  refine ⟨.slice (some ⟨g, 0, none⟩) bs.length c2, trivial, ?_, Holds.ent (P := bytesO (.slice (some ⟨g, 0, none⟩) (bs.length + 1) c2) (bs ++ [0xa7])) (fun h hp => ⟨g, c2, rfl, hp⟩) (Holds.ent (P := pts g 5 (bs.map bcell ++ [.int .u8 167] ++ tail)) (fun h hp => ?_) (hw.sub (by repeat (first | exact Pick.nil | apply Pick.cons (by repeat (first | with_reducible exact Sel.head | apply Sel.tail))))))⟩
  · rw [show (Int.toNat 0) = 0 from rfl, subA_zero]; rfl
  · have := pts_own' (k := 1) h3 h4 h5 h6 h hp
    rw [own_bytes (bs := bs ++ [0xa7]) (by simp) (by simp; rfl)] at this
    exact this
theorem kept_spec (F : HP) (v u : Value) (bs : List UInt8) (hF : VwB F u bs) (hl : bs.length ≤ 140737488351232) :
    Spec Try.prog 49 [v, u] [lentO v bs] F (fun _ : Unit => True) (fun _ => .bool true) (fun _ => [lentO v bs]) := by
  intro ω w hh
  refine enter Try.func49 rfl Try.ntmps49 rfl hh ?_
  simp only [List.cons_append, List.nil_append, argsB]
  refine St.vw hF (.tail .head) (fun A c hu h1 h2 _ => ?_)
  subst hu
  refine St.ex fun g => St.ex fun c1 => St.pure fun hv => ?_
  subst hv
  have hvl : VwB (bytesO (.slice (some ⟨g, 0, none⟩) (bs.length + 1) c1) (bs ++ [0xa7])) (.slice (some ⟨g, 0, none⟩) bs.length c1) bs := fun h hh => vw_lent h ⟨g, c1, rfl, hh⟩
  refine St.vw (v := .slice (some ⟨g, 0, none⟩) (bs.length + 1) c1) (k := 1) (n := bs.length + 1) (cs := (bs ++ [0xa7]).map bcell) (X := bytesO (.slice (some ⟨g, 0, none⟩) (bs.length + 1) c1) (bs ++ [0xa7])) (fun h hh => by have := vw_bytes h hh; rw [List.length_append] at this; exact this) .head (fun A' c' e h3 h4 _ => ?_)
  cases e
  refine do_seq ?_
  refine do_region ?_
  refine run_read rfl (by decide) (fun _ => nofun) (rd_assign rfl) ?_
  refine run_nil ?_
  refine St.then_n ?_
  refine do_seq ?_
  refine do_region ?_
  refine run_read rfl (by decide) (fun _ => nofun) (rd_move rfl) ?_
  refine run_read rfl (by decide) (fun _ => nofun) (rd_bytes_string Try.underlying26 Try.underlying5 Try.underlying9 rfl hvl .head) ?_
  refine run_read rfl (by decide) (fun _ => nofun) (rd_move rfl) ?_
  refine run_read rfl (by decide) (fun _ => nofun) (rd_bytes_string Try.underlying26 Try.underlying5 Try.underlying9 rfl hF (.tail .head)) ?_
  refine run_read rfl (by decide) (fun _ => nofun) ((rd_str_eql rfl rfl).eq (show _ = .bool true by simp)) ?_
  refine run_read rfl (by decide) (fun _ => nofun) (rd_move rfl) ?_
  first | (refine run_skip rfl rfl ?_) | (refine run_read rfl (by decide) (fun _ => nofun) (rd_move rfl) ?_)
  first | (refine run_skip rfl rfl ?_) | (refine run_read rfl (by decide) (fun _ => nofun) (rd_move rfl) ?_)
  first | (refine run_skip rfl rfl ?_) | (refine run_read rfl (by decide) (fun _ => nofun) (rd_len Try.underlying26 rfl) ?_)
  first | (refine run_skip rfl rfl ?_) | (first | refine run_read rfl (by decide) (fun _ => nofun) ((rd_add rfl rfl).eq (congrArg (Value.int .i64) (IntWalk.i64_in _ (by omega)))) ?_ | refine run_read rfl (by decide) (fun _ => nofun) (rd_add rfl rfl) ?_)
  first | (refine run_skip rfl rfl ?_) | (refine run_read rfl (by decide) (fun _ => nofun) ((rd_slice (i := 0) Try.underlying26 ei5 rfl rfl rfl (by omega) (by omega) (by omega)).eq (show _ = Value.slice (some ⟨g, 0, none⟩) (bs.length + 1) c1 by rw [show (Int.toNat 0) = 0 from rfl, subA_zero]; congr 1 <;> omega)) ?_)
  first | (refine run_skip rfl rfl ?_) | (refine run_read rfl (by decide) (fun _ => nofun) (rd_move rfl) ?_)
  first | (refine run_skip rfl rfl ?_) | (refine run_read rfl (by decide) (fun _ => nofun) (rd_len Try.underlying26 rfl) ?_)
  first | (refine run_skip rfl rfl ?_) | (refine run_read rfl (by decide) (fun _ => nofun) ((rd_indexAddr Try.underlying26 ei5 rfl rfl (by omega) (by omega)).eq (show _ = Value.pointer (some ⟨g, 0 + bs.length, none⟩) by simp)) ?_)
  first | (refine run_skip rfl rfl ?_) | (refine run_read rfl (by decide) (fun _ => nofun) (rd_load rfl row5 (Vw.cells1 (c := c1) (n := bs.length + 1) (cs := (bs ++ [0xa7]).map bcell) (k := 1) (X := bytesO (.slice (some ⟨g, 0, none⟩) (bs.length + 1) c1) (bs ++ [0xa7])) (fun h hh => by have := vw_bytes h hh; rw [List.length_append] at this; exact this) .head (by omega) (i := bs.length) (v := bcell 0xa7) (by simp))) ?_)
  first | (refine run_skip rfl rfl ?_) | (refine run_read rfl (by decide) (fun _ => nofun) (rd_eq rfl rfl) ?_)
  first | refine run_read rfl (by decide) (fun _ => nofun) (rd_pick_t rfl rfl) ?_ | refine run_read rfl (by decide) (fun _ => nofun) (rd_pick_f rfl rfl) ?_
  refine run_read rfl (by decide) (fun _ => nofun) (rd_assign rfl) ?_
  refine run_nil ?_
  refine St.keep (β' := [(4, _)]) ⟨rfl, trivial⟩ ?_
  refine St.then_n ?_
  refine do_ret ?_
  refine do_ret1 Try.results49 (res_tmp rfl) ?_
  intro w hw
  exact ⟨(), trivial, rfl, Holds.ent (P := bytesO (.slice (some ⟨g, 0, none⟩) (bs.length + 1) c1) (bs ++ [0xa7])) (fun h hp => ⟨g, c1, rfl, hp⟩) (hw.sub (by repeat (first | exact Pick.nil | apply Pick.cons (by repeat (first | with_reducible exact Sel.head | apply Sel.tail)))))⟩
theorem spoil_spec (F : HP) (v : Value) (bs : List UInt8) (hl : bs.length ≤ 140737488351232) :
    Spec Try.prog 29 [v] [bytesO v bs] F (fun _ : Unit => True) (fun _ => .tuple #[]) (fun _ => []) := by
  intro ω w hh
  refine enter Try.func29 rfl Try.ntmps29 rfl hh ?_
  simp only [List.cons_append, List.nil_append, argsB]
  refine St.vw vw_bytes .head (fun A c hv h1 h2 _ => ?_)
  subst hv
  refine do_seq ?_
  refine do_seq ?_
  refine do_region ?_
  refine run_read rfl (by decide) (fun _ => nofun) (rd_assign rfl) ?_
  refine run_nil ?_
  refine St.then_n ?_
  refine do_block ?_
  refine do_loop (fun x : Nat × List Value => x.1 ≤ bs.length ∧ x.2.length = bs.length) (fun x => [(0, .slice A bs.length c), (2, .int .i64 x.1)]) (fun x => [own (.slice A bs.length c) 5 1 bs.length x.2, F]) (fun x => bs.length - x.1) (0, bs.map bcell) ⟨Nat.zero_le _, by simp⟩ ⟨rfl, rfl, trivial⟩ (by unfold bytesO; dsimp only; exact (by repeat (first | exact Pick.nil | apply Pick.cons (by repeat (first | with_reducible exact Sel.head | apply Sel.tail))))) ?_
  rintro ⟨i, cs⟩ ⟨hi, hcl⟩
  dsimp only at hi hcl ⊢
  refine do_seq ?_
  refine do_seq ?_
  refine do_region ?_
  refine run_read rfl (by decide) (fun _ => nofun) (rd_move rfl) ?_
  refine run_read rfl (by decide) (fun _ => nofun) (rd_move rfl) ?_
  refine run_read rfl (by decide) (fun _ => nofun) (rd_len Try.underlying26 rfl) ?_
  refine run_read rfl (by decide) (fun _ => nofun) (rd_lt rfl rfl) ?_
  refine run_nil ?_
  refine St.then_n ?_
  first | refine do_condp rfl (fun h6 => ?_) (fun h6 => ?_) | refine do_cond rfl (fun h6 => ?_) (fun h6 => ?_)
  · refine St.own_some (by omega) (fun g c2 hg h3 h4 h5 => ?_)
    cases hg
    refine do_skip ?_
    refine St.then_n ?_
    refine do_seq ?_
    refine do_block ?_
    refine do_region ?_
    refine run_read rfl (by decide) (fun _ => nofun) (rd_move rfl) ?_
    refine run_read rfl (by decide) (fun _ => nofun) (rd_move rfl) ?_
    refine run_read rfl (by decide) (fun _ => nofun) (rd_indexAddr Try.underlying26 ei5 rfl rfl (by omega) (by omega)) ?_
    refine run_store_own rfl rfl rfl (by repeat (first | with_reducible exact Sel.head | apply Sel.tail)) row5 rfl (by simp; omega) ?_
    simp only [Nat.zero_add, Nat.mul_one]
    refine run_nil ?_
    refine St.keep (β' := [(0, _), (2, _)]) ⟨rfl, rfl, trivial⟩ ?_
    refine St.blk_n ?_
    refine St.then_n ?_
    refine do_region ?_
    refine run_read rfl (by decide) (fun _ => nofun) (rd_move rfl) ?_
    first | refine run_read rfl (by decide) (fun _ => nofun) ((rd_add rfl rfl).eq (congrArg (Value.int .i64) (IntWalk.i64_in _ (by omega)))) ?_ | refine run_read rfl (by decide) (fun _ => nofun) (rd_add rfl rfl) ?_
    refine run_read rfl (by decide) (fun _ => nofun) (rd_assign rfl) ?_
    refine run_nil ?_
    refine St.then_n ?_
    exact loop_back (i + 1, cs.set (Int.toNat i) (.int .u8 90)) ⟨by dsimp only; omega, by simp [hcl]⟩ (by dsimp only; omega) ⟨rfl, rfl, trivial⟩ (by repeat (first | exact Pick.nil | apply Pick.cons (by repeat (first | with_reducible exact Sel.head | apply Sel.tail))))
  · refine do_exit ?_
    refine St.then_x ?_
    refine St.then_x ?_
    refine St.blk_s ?_
    refine St.then_n ?_
    refine do_seq ?_
    refine do_region ?_
    refine run_read rfl (by decide) (fun _ => nofun) (rd_move rfl) ?_
    refine run_buildSlice (l := [(Operand.const (Value.int IntKind.u8 91))]) rfl (by decide) Try.underlying26 ei5 rfl rfl (by decide) (by decide) (fun b13 => ?_)
    simp only [joinL, cells_agg, cells_int, cells_bcell, cells_bool, cells_string, cells_pointer, cells_slice, cells_map, cells_func, List.cons_append, List.nil_append, List.append_nil]
    refine run_append_src rfl (by decide) Try.underlying26 ei5 rfl rfl (by repeat (first | with_reducible exact Sel.head | apply Sel.tail)) (src_pts Try.underlying26 (by repeat (first | with_reducible exact Sel.head | apply Sel.tail)) rfl (by decide) rfl) (by simp; omega) (by simp [maxLen]; omega) (fun v2 _ => ?_)
    refine St.own_some (by simp) (fun g c2 hg h3 h4 h5 => ?_)
    subst hg
    simp only [List.length_cons, List.length_nil, Nat.zero_add] at h3 h5 ⊢
    refine run_read rfl (by decide) (fun _ => nofun) (rd_assign rfl) ?_
    refine run_nil ?_
    refine St.keep (β' := [(0, _)]) ⟨rfl, trivial⟩ ?_
    refine St.then_n ?_
    refine do_region ?_
    refine run_read rfl (by decide) (fun _ => nofun) (rd_move rfl) ?_
    refine run_read rfl (by decide) (fun _ => nofun) (rd_move rfl) ?_
    refine run_read rfl (by decide) (fun _ => nofun) (rd_len Try.underlying26 rfl) ?_
    first | refine run_read rfl (by decide) (fun _ => nofun) ((rd_sub rfl rfl).eq (congrArg (Value.int .i64) (IntWalk.i64_in _ (by omega)))) ?_ | refine run_read rfl (by decide) (fun _ => nofun) (rd_sub rfl rfl) ?_
    refine run_read rfl (by decide) (fun _ => nofun) (rd_indexAddr Try.underlying26 ei5 rfl rfl (by omega) (by omega)) ?_
    refine run_store_own rfl rfl rfl (by repeat (first | with_reducible exact Sel.head | apply Sel.tail)) row5 rfl (by simp; omega) ?_
    refine run_nil ?_
    refine St.keep (β' := []) trivial ?_
    refine do_end0 Try.results29 ?_
    intro w hw
    exact ⟨(), trivial, rfl, hw.sub (by repeat (first | exact Pick.nil | apply Pick.cons (by repeat (first | with_reducible exact Sel.head | apply Sel.tail))))⟩
theorem count_spec (F : HP) (n k : Int) (hk : 0 < k) (hk' : k ≤ 4611686018427387904) : Spec Try.prog 23 [.int .i64 n, .int .i64 k] [] F (fun _ : Unit => True) (fun _ => .int .i64 (n % k)) (fun _ => []) :=
  spec_eq fun w => count_any n k w hk hk'
end Go.Proofs.Ytglcmlicfmmlpaa
