/-
  The reference's writers.
-/
import Derived.Test.YtglcmlicfmmlpaaC11
namespace Go.Proofs.Ytglcmlicfmmlpaa
open Go.RowKit
set_option linter.unusedSimpArgs false
set_option linter.unusedVariables false

theorem u8_add128 (n : Nat) : Value.int .u8 (IntKind.u8.wrap (((n % 128 : Nat) : Int) + 128)) = bcell (UInt8.ofNat (n % 128 + 128)) := by
  unfold bcell
  rw [IntKind.wrap_u8]
  congr 1
theorem tmod128 (q : Nat) : Value.int .u64 ((q : Int).tmod 128) = .int .u64 ((q % 128 : Nat) : Int) := by
  have e : (q : Int).tmod 128 = ((q % 128 : Nat) : Int) := by rw [Int.tmod_eq_emod_of_nonneg (by omega)]; rfl
  rw [e]
theorem tdiv128 (q : Nat) (hq : q < 18446744073709551616) : Value.int .u64 (IntKind.u64.wrap ((q : Int).tdiv 128)) = .int .u64 ((q / 128 : Nat) : Int) := by
  have e : (q : Int).tdiv 128 = ((q / 128 : Nat) : Int) := by rw [Int.tdiv_eq_ediv_of_nonneg (by omega)]; rfl
  rw [e, IntWalk.u64_in _ (by omega)]
set_option maxHeartbeats 1000000 in
theorem refUint_spec (F : HP) (v : Value) (bs : List UInt8) (n : Nat) (hF : VwB F v bs) (hn : n < 18446744073709551616) (hl : bs.length ≤ 70368744177664) :
    Spec Try.prog 117 [v, .int .u64 n] [] F (fun _ : Value => True) (fun v' => v') (fun v' => [bytesO v' (bs ++ uvar n)]) := by
  intro ω w hh
  refine enter Try.func117 rfl Try.ntmps117 rfl hh ?_
  simp only [List.nil_append, argsB]
  have hu := uvar_len64 hn
  refine do_seq ?_
  refine do_region ?_
  refine run_read rfl (by decide) (fun _ => nofun) (rd_assign rfl) ?_
  refine run_nil ?_
  refine St.then_n ?_
  refine do_seq ?_
  refine do_region ?_
  refine run_read rfl (by decide) (fun _ => nofun) (rd_assign rfl) ?_
  refine run_nil ?_
  refine St.then_n ?_
  refine do_seq ?_
  refine do_region ?_
  refine run_read rfl (by decide) (fun _ => nofun) (rd_move rfl) ?_
  refine run_read rfl (by decide) (fun _ => nofun) (rd_move rfl) ?_
  refine St.own_nil (T := 5) (k := 1) ?_
  refine run_append rfl (by decide) Try.underlying26 ei5 rfl rfl (by repeat (first | with_reducible exact Sel.head | apply Sel.tail)) (X := F) hF (by repeat (first | with_reducible exact Sel.head | apply Sel.tail)) (by simp only [List.mem_map]; rintro c ⟨b, _, rfl⟩; rfl) (by simp [maxLen]; omega) (by simp; omega) (fun v1 _ => ?_)
  rw [own_bytes (v := v1) (bs := bs) (by simp) (by simp)]
  refine run_read rfl (by decide) (fun _ => nofun) (rd_assign rfl) ?_
  refine run_nil ?_
  refine St.keep (β' := [(1, _), (5, _)]) ⟨rfl, rfl, trivial⟩ ?_
  refine St.then_n ?_
  refine do_seq ?_
  refine do_block ?_
  refine do_loop (fun x : Value × List UInt8 × Nat => x.2.1 ++ uvar x.2.2 = uvar n ∧ x.2.2 < 18446744073709551616) (fun x => [(1, .int .u64 x.2.2), (5, x.1)]) (fun x => [bytesO x.1 (bs ++ x.2.1), F]) (fun x => x.2.2) (v1, [], n) ⟨rfl, hn⟩ ⟨rfl, rfl, trivial⟩ (by simp only [List.append_nil]; exact (by repeat (first | exact Pick.nil | apply Pick.cons (by repeat (first | with_reducible exact Sel.head | apply Sel.tail))))) ?_
  rintro ⟨v2, ws, q⟩ ⟨hws, hq⟩
  dsimp only at hws hq ⊢
  have hwl : ws.length + (uvar q).length = (uvar n).length := by rw [← hws, List.length_append]
  refine do_seq ?_
  refine do_seq ?_
  refine do_region ?_
  refine run_read rfl (by decide) (fun _ => nofun) (rd_move rfl) ?_
  refine run_read rfl (by decide) (fun _ => nofun) (rd_ge rfl rfl) ?_
  refine run_nil ?_
  refine St.then_n ?_
  first | refine do_condp rfl (fun h10 => ?_) (fun h10 => ?_) | refine do_cond rfl (fun h10 => ?_) (fun h10 => ?_)
  · have hq1 : ¬ q < 128 := by omega
    have hwl2 : 1 ≤ (uvar q).length := by rw [uvar_big hq1]; simp
    refine do_skip ?_
    refine St.then_n ?_
    refine do_block ?_
    refine do_seq ?_
    refine do_region ?_
    refine run_read rfl (by decide) (fun _ => nofun) (rd_move rfl) ?_
    refine run_read rfl (by decide) (fun _ => nofun) (rd_move rfl) ?_
    refine run_read rfl (by decide) (fun _ => nofun) ((rd_rem (by decide) rfl rfl).eq (tmod128 q)) ?_
    first | refine run_read rfl (by decide) (fun _ => nofun) ((rd_conv Try.underlying183 Try.underlying5 rfl).eq (congrArg (Value.int .u8) (IntWalk.u8_in _ (by omega)))) ?_ | refine run_read rfl (by decide) (fun _ => nofun) (rd_conv Try.underlying183 Try.underlying5 rfl) ?_
    refine run_read rfl (by decide) (fun _ => nofun) ((rd_add rfl rfl).eq (u8_add128 q)) ?_
    refine run_buildSlice (l := [(Operand.tmp 15)]) rfl (by decide) Try.underlying26 ei5 rfl rfl (by decide) (by decide) (fun b16 => ?_)
    simp only [joinL, cells_agg, cells_int, cells_bcell, cells_bool, cells_string, cells_pointer, cells_slice, cells_map, cells_func, List.cons_append, List.nil_append, List.append_nil]
    refine run_append_src rfl (by decide) Try.underlying26 ei5 rfl rfl (n := (bs ++ ws).length) (cs := (bs ++ ws).map bcell) (.tail .head) (src_pts Try.underlying26 (by repeat (first | with_reducible exact Sel.head | apply Sel.tail)) rfl (by decide) rfl) (by simp; omega) (by simp [maxLen]; omega) (fun v3 _ => ?_)
    rw [own_bytes (v := v3) (bs := bs ++ (ws ++ [UInt8.ofNat (q % 128 + 128)])) (by simp; omega) (by simp)]
    refine run_read rfl (by decide) (fun _ => nofun) (rd_assign rfl) ?_
    refine run_nil ?_
    refine St.keep (β' := [(1, _), (5, _)]) ⟨rfl, rfl, trivial⟩ ?_
    refine St.then_n ?_
    refine do_region ?_
    refine run_read rfl (by decide) (fun _ => nofun) (rd_move rfl) ?_
    refine run_read rfl (by decide) (fun _ => nofun) ((rd_quo (by decide) rfl rfl).eq (tdiv128 q hq)) ?_
    refine run_read rfl (by decide) (fun _ => nofun) (rd_assign rfl) ?_
    refine run_nil ?_
    refine St.blk_n ?_
    refine St.then_n ?_
    exact loop_back (v3, ws ++ [UInt8.ofNat (q % 128 + 128)], q / 128) ⟨by rw [List.append_assoc]; rw [← hws, uvar_big hq1]; rfl, by dsimp only; omega⟩ (by dsimp only; omega) ⟨rfl, rfl, trivial⟩ (by repeat (first | exact Pick.nil | apply Pick.cons (by repeat (first | with_reducible exact Sel.head | apply Sel.tail))))
  · have hq1 : q < 128 := by omega
    have hwl2 : 1 ≤ (uvar q).length := by rw [uvar_small hq1]; simp
    refine do_exit ?_
    refine St.then_x ?_
    refine St.then_x ?_
    refine St.blk_s ?_
    refine St.then_n ?_
    refine do_seq ?_
    refine do_region ?_
    refine run_read rfl (by decide) (fun _ => nofun) (rd_move rfl) ?_
    refine run_read rfl (by decide) (fun _ => nofun) (rd_move rfl) ?_
    refine run_read rfl (by decide) (fun _ => nofun) ((rd_conv Try.underlying183 Try.underlying5 rfl).eq (u8_of q)) ?_
    refine run_buildSlice (l := [(Operand.tmp 22)]) rfl (by decide) Try.underlying26 ei5 rfl rfl (by decide) (by decide) (fun b23 => ?_)
    simp only [joinL, cells_agg, cells_int, cells_bcell, cells_bool, cells_string, cells_pointer, cells_slice, cells_map, cells_func, List.cons_append, List.nil_append, List.append_nil]
    refine run_append_src rfl (by decide) Try.underlying26 ei5 rfl rfl (n := (bs ++ ws).length) (cs := (bs ++ ws).map bcell) (.tail .head) (src_pts Try.underlying26 (by repeat (first | with_reducible exact Sel.head | apply Sel.tail)) rfl (by decide) rfl) (by simp; omega) (by simp [maxLen]; omega) (fun v3 _ => ?_)
    rw [own_bytes (v := v3) (bs := bs ++ uvar n) (by rw [← hws, uvar_small hq1]; simp; omega) (by rw [← hws, uvar_small hq1]; simp)]
    refine run_read rfl (by decide) (fun _ => nofun) (rd_assign rfl) ?_
    refine run_nil ?_
    refine St.keep (β' := [(5, _)]) ⟨rfl, trivial⟩ ?_
    refine St.then_n ?_
    refine do_seq ?_
    refine do_region ?_
    refine run_read rfl (by decide) (fun _ => nofun) (rd_move rfl) ?_
    refine run_read rfl (by decide) (fun _ => nofun) (rd_assign rfl) ?_
    refine run_nil ?_
    refine St.then_n ?_
    refine do_ret ?_
    refine do_ret1 Try.results117 (res_tmp rfl) ?_
    intro w hw
    exact ⟨v3, trivial, rfl, hw.sub (by repeat (first | exact Pick.nil | apply Pick.cons (by repeat (first | with_reducible exact Sel.head | apply Sel.tail))))⟩
theorem zig_neg {n : Int} (h : n < 0) : ((zig n : Nat) : Int) = 2 * (0 - (n + 1)) + 1 := by unfold zig; rw [if_neg (by omega)]; omega
theorem zig_pos {n : Int} (h : ¬ n < 0) : ((zig n : Nat) : Int) = 2 * n := by unfold zig; rw [if_pos (by omega)]; omega
theorem refInt_spec (F : HP) (v : Value) (bs : List UInt8) (n : Int) (hF : VwB F v bs) (hn : -9223372036854775808 ≤ n ∧ n ≤ 9223372036854775807) (hl : bs.length ≤ 70368744177664) :
    Spec Try.prog 76 [v, .int .i64 n] [] F (fun _ : Value => True) (fun v' => v') (fun v' => [bytesO v' (bs ++ ivar n)]) := by
  intro ω w hh
  refine enter Try.func76 rfl Try.ntmps76 rfl hh ?_
  simp only [List.nil_append, argsB]
  have hz := zig_lt hn
  refine do_seq ?_
  refine do_region ?_
  refine run_read rfl (by decide) (fun _ => nofun) (rd_assign rfl) ?_
  refine run_nil ?_
  refine St.then_n ?_
  refine do_seq ?_
  refine do_seq ?_
  refine do_region ?_
  refine run_read rfl (by decide) (fun _ => nofun) (rd_move rfl) ?_
  refine run_read rfl (by decide) (fun _ => nofun) (rd_lt rfl rfl) ?_
  refine run_nil ?_
  refine St.then_n ?_
  first | refine do_condp rfl (fun h6 => ?_) (fun h6 => ?_) | refine do_cond rfl (fun h6 => ?_) (fun h6 => ?_)
  · have hzn := zig_neg h6
    refine do_seq ?_
    refine do_region ?_
    refine run_read rfl (by decide) (fun _ => nofun) (rd_move rfl) ?_
    refine run_read rfl (by decide) (fun _ => nofun) (rd_move rfl) ?_
    first | refine run_read rfl (by decide) (fun _ => nofun) ((rd_add rfl rfl).eq (congrArg (Value.int .i64) (IntWalk.i64_in _ (by omega)))) ?_ | refine run_read rfl (by decide) (fun _ => nofun) (rd_add rfl rfl) ?_
    refine run_read rfl (by decide) (fun _ => nofun) ((rd_neg rfl).eq (show _ = Value.int .i64 (0 - (n + 1)) from congrArg _ (IntWalk.i64_in _ (by omega)))) ?_
    refine run_read rfl (by decide) (fun _ => nofun) ((rd_conv Try.underlying2 Try.underlying183 rfl).eq (show _ = Value.int .u64 (0 - (n + 1)) from congrArg _ (IntWalk.u64_in _ (by omega)))) ?_
    refine run_read rfl (by decide) (fun _ => nofun) ((rd_mul rfl rfl).eq (show _ = Value.int .u64 (2 * (0 - (n + 1))) from congrArg _ (IntWalk.u64_in _ (by omega)))) ?_
    refine run_read rfl (by decide) (fun _ => nofun) ((rd_add rfl rfl).eq (show _ = Value.int .u64 ((zig n : Nat) : Int) by rw [hzn]; exact congrArg _ (IntWalk.u64_in _ (by omega)))) ?_
    refine run_spec rfl (by decide) (by kernel_rfl) rfl (by repeat (first | exact Pick.nil | apply Pick.cons (by repeat (first | with_reducible exact Sel.head | apply Sel.tail)))) (refUint_spec _ _ _ (zig n) (by first | with_reducible exact vwb_nil _ | exact Vw.sep hF (by repeat (first | with_reducible exact Sel.head | apply Sel.tail)) | exact Vw.sep hG (by repeat (first | with_reducible exact Sel.head | apply Sel.tail)) | exact Vw.sep vw_bytes (by repeat (first | with_reducible exact Sel.head | apply Sel.tail))) hz hl) ?_
    rintro v1 -
    try simp only [List.cons_append, List.nil_append]
    refine run_read rfl (by decide) (fun _ => nofun) (rd_assign rfl) ?_
    refine run_nil ?_
    refine St.keep (β' := [(4, _)]) ⟨rfl, trivial⟩ ?_
    refine St.then_n ?_
    refine do_ret ?_
    refine St.then_r ?_
    refine do_ret1 Try.results76 (res_tmp rfl) ?_
    intro w hw
    exact ⟨v1, trivial, rfl, hw⟩
  · have hzp := zig_pos h6
    refine do_skip ?_
    refine St.then_n ?_
    refine do_seq ?_
    refine do_region ?_
    refine run_read rfl (by decide) (fun _ => nofun) (rd_move rfl) ?_
    refine run_read rfl (by decide) (fun _ => nofun) (rd_move rfl) ?_
    refine run_read rfl (by decide) (fun _ => nofun) ((rd_conv Try.underlying2 Try.underlying183 rfl).eq (show _ = Value.int .u64 n from congrArg _ (IntWalk.u64_in _ (by omega)))) ?_
    refine run_read rfl (by decide) (fun _ => nofun) ((rd_mul rfl rfl).eq (show _ = Value.int .u64 ((zig n : Nat) : Int) by rw [hzp]; exact congrArg _ (IntWalk.u64_in _ (by omega)))) ?_
    refine run_spec rfl (by decide) (by kernel_rfl) rfl (by repeat (first | exact Pick.nil | apply Pick.cons (by repeat (first | with_reducible exact Sel.head | apply Sel.tail)))) (refUint_spec _ _ _ (zig n) (by first | with_reducible exact vwb_nil _ | exact Vw.sep hF (by repeat (first | with_reducible exact Sel.head | apply Sel.tail)) | exact Vw.sep hG (by repeat (first | with_reducible exact Sel.head | apply Sel.tail)) | exact Vw.sep vw_bytes (by repeat (first | with_reducible exact Sel.head | apply Sel.tail))) hz hl) ?_
    rintro v1 -
    try simp only [List.cons_append, List.nil_append]
    refine run_read rfl (by decide) (fun _ => nofun) (rd_assign rfl) ?_
    refine run_nil ?_
    refine St.keep (β' := [(4, _)]) ⟨rfl, trivial⟩ ?_
    refine St.then_n ?_
    refine do_ret ?_
    refine do_ret1 Try.results76 (res_tmp rfl) ?_
    intro w hw
    exact ⟨v1, trivial, rfl, hw⟩
theorem refByt_spec (F : HP) (v u : Value) (bs s : List UInt8) (hF : VwB F v bs) (hG : VwB F u s) (hs : s.length ≤ 1099511627776) (hl : bs.length ≤ 70368744177664) :
    Spec Try.prog 77 [v, u] [] F (fun _ : Value => True) (fun v' => v') (fun v' => [bytesO v' (bs ++ uvar s.length ++ s)]) := by
  intro ω w hh
  refine enter Try.func77 rfl Try.ntmps77 rfl hh ?_
  simp only [List.nil_append, argsB]
  refine St.vw hG .head (fun A c hv h1 h2 _ => ?_)
  subst hv
  have hul := uvar_len64 (n := s.length) (by omega)
  refine do_seq ?_
  refine do_region ?_
  refine run_read rfl (by decide) (fun _ => nofun) (rd_assign rfl) ?_
  refine run_nil ?_
  refine St.then_n ?_
  refine do_seq ?_
  refine do_region ?_
  refine run_read rfl (by decide) (fun _ => nofun) (rd_move rfl) ?_
  refine run_read rfl (by decide) (fun _ => nofun) (rd_move rfl) ?_
  refine run_read rfl (by decide) (fun _ => nofun) (rd_len Try.underlying26 rfl) ?_
  first | refine run_read rfl (by decide) (fun _ => nofun) ((rd_conv Try.underlying3 Try.underlying183 rfl).eq (congrArg (Value.int .u64) (IntWalk.u64_in _ (by omega)))) ?_ | refine run_read rfl (by decide) (fun _ => nofun) (rd_conv Try.underlying3 Try.underlying183 rfl) ?_
  refine run_spec rfl (by decide) (by kernel_rfl) rfl (by repeat (first | exact Pick.nil | apply Pick.cons (by repeat (first | with_reducible exact Sel.head | apply Sel.tail)))) (refUint_spec _ v bs s.length (hF.sep (by repeat (first | with_reducible exact Sel.head | apply Sel.tail))) (by omega) hl) ?_
  rintro v' -
  try simp only [List.cons_append, List.nil_append]
  refine run_read rfl (by decide) (fun _ => nofun) (rd_assign rfl) ?_
  refine run_nil ?_
  refine St.keep (β' := [(1, _), (5, _)]) ⟨rfl, rfl, trivial⟩ ?_
  refine St.then_n ?_
  refine do_seq ?_
  refine do_region ?_
  refine run_read rfl (by decide) (fun _ => nofun) (rd_move rfl) ?_
  refine run_read rfl (by decide) (fun _ => nofun) (rd_move rfl) ?_
  refine run_append rfl (by decide) Try.underlying26 ei5 rfl rfl .head hG (by repeat (first | with_reducible exact Sel.head | apply Sel.tail)) (fun c hc => by obtain ⟨b, _, rfl⟩ := List.mem_map.1 hc; rfl) (by simp [maxLen]; omega) (by simp; omega) (fun v' _ => ?_)
  rw [own_bytes (v := v') (bs := bs ++ uvar s.length ++ s) (by simp; omega) (by simp)]
  refine run_read rfl (by decide) (fun _ => nofun) (rd_assign rfl) ?_
  refine run_nil ?_
  refine St.keep (β' := [(5, _)]) ⟨rfl, trivial⟩ ?_
  refine St.then_n ?_
  refine do_seq ?_
  refine do_region ?_
  refine run_read rfl (by decide) (fun _ => nofun) (rd_move rfl) ?_
  refine run_read rfl (by decide) (fun _ => nofun) (rd_assign rfl) ?_
  refine run_nil ?_
  refine St.then_n ?_
  refine do_ret ?_
  refine do_ret1 Try.results77 (res_tmp rfl) ?_
  intro w hw
  exact ⟨_, trivial, rfl, hw.sub (by repeat (first | exact Pick.nil | apply Pick.cons (by repeat (first | with_reducible exact Sel.head | apply Sel.tail))))⟩
end Go.Proofs.Ytglcmlicfmmlpaa
