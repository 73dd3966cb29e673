/-
  Sums; numbers as bytes; sealed sectors.
-/
import Derived.Test.YtgeldfgcicjidaaB1
import Derived.Test.YtgeldfgcicjidaaE2
namespace Go.Proofs.Ytgeldfgcicjidaa
open Go.RowKit
set_option linter.unusedSimpArgs false
set_option linter.unusedVariables false

/-- The register behind a bit 0. -/
def shF (r : Int) : Int := IntKind.u32.wrap (BitVec.ofInt IntKind.u32.bits (r.fdiv (2 ^ (min (1 : Int).toNat IntKind.u32.bits))) ^^^ BitVec.ofInt IntKind.u32.bits (IntKind.u32.wrap (BitVec.ofInt IntKind.u32.bits 2197175160 &&& BitVec.ofInt IntKind.u32.bits (IntKind.u32.wrap (0 - IntKind.u32.wrap (BitVec.ofInt IntKind.u32.bits r &&& BitVec.ofInt IntKind.u32.bits 1).toNat))).toNat)).toNat
def comF (r : Int) : Int := IntKind.u32.wrap (BitVec.ofInt IntKind.u32.bits (if IntKind.u32.signed then -1 else IntKind.u32.max) ^^^ BitVec.ofInt IntKind.u32.bits r).toNat
def shN : Nat → Int → Int
  | 0, r => r
  | n + 1, r => shF (shN n r)
def crcS (r : Int) (c : UInt8) : Int := shN 8 (IntKind.u32.wrap (BitVec.ofInt IntKind.u32.bits r ^^^ BitVec.ofInt IntKind.u32.bits (IntKind.u32.wrap c.toNat)).toNat)
/-- The sum of bytes. -/
def crcF (bs : List UInt8) : Int := comF (bs.foldl crcS (comF 0))
theorem comF_lt (r : Int) : 0 ≤ comF r ∧ comF r < 4294967296 := by
  unfold comF
  generalize (BitVec.ofInt IntKind.u32.bits (if IntKind.u32.signed then -1 else IntKind.u32.max) ^^^ BitVec.ofInt IntKind.u32.bits r).toNat = q
  simp [IntKind.wrap, IntKind.bits, IntKind.signed]
  omega
theorem take_get' {α : Type} {l : List α} {i : Nat} {x : α} (h : l[i]? = some x) : l.take (i + 1) = l.take i ++ [x] := by rw [List.take_add_one, h]; rfl
theorem shifted_spec (F : HP) (r : Int) : Spec Try.prog 87 [.int .u32 r] [] F (fun _ : Unit => True) (fun _ => .int .u32 (shF r)) (fun _ => []) := by
  intro ω w hh
  refine enter Try.func87 rfl Try.ntmps87 rfl hh ?_
  simp only [List.nil_append, argsB]
  refine sr ?_
  refine rr (rd_assign rfl) ?_
  refine nx ?_
  refine sr ?_
  refine rr (rd_move rfl) ?_
  refine rr (rd_shr (by decide) rfl rfl) ?_
  refine rr (rd_move rfl) ?_
  refine rr (rd_and rfl rfl) ?_
  refine rr (rd_neg rfl) ?_
  refine rr (rd_and rfl rfl) ?_
  refine rr (rd_xor rfl rfl) ?_
  refine rr (rd_assign rfl) ?_
  refine run_nil ?_
  refine St.kp [(2, _)] ?_
  refine St.then_n ?_
  refine do_ret ?_
  refine do_ret1 Try.results87 (res_tmp rfl) ?_
  intro w hw
  exact ⟨(), trivial, rfl, hw.sb⟩
theorem more_spec (F : HP) (v : Value) (bs : List UInt8) (s : Int) (hF : VwB F v bs) : Spec Try.prog 72 [.int .u32 s, v] [] F (fun _ : Unit => True) (fun _ => .int .u32 (comF (bs.foldl crcS (comF s)))) (fun _ => []) := by
  intro ω w hh
  refine enter Try.func72 rfl Try.ntmps72 rfl hh ?_
  simp only [List.nil_append, argsB]
  refine St.vw hF .head (fun A c hv h1 h2 _ => ?_)
  subst hv
  simp only [maxLen] at h2
  refine sr ?_
  refine rr (rd_assign rfl) ?_
  refine nx ?_
  refine sr ?_
  refine rr (rd_move rfl) ?_
  refine rr (rd_com rfl) ?_
  refine rr (rd_assign rfl) ?_
  refine run_nil ?_
  refine St.kp [(1, _), (5, _)] ?_
  refine St.then_n ?_
  refine do_seq ?_
  refine sr ?_
  refine rr (rd_move rfl) ?_
  refine rr (rd_len Try.underlying44 rfl) ?_
  refine rr (rd_move rfl) ?_
  refine nx ?_
  refine do_block ?_
  refine do_lp (fun i : Nat => i ≤ bs.length) (fun i => [(5, .int .u32 ((bs.take i).foldl crcS (comF s))), (10, .slice A bs.length c), (11, .int .i64 bs.length), (12, .int .i64 i)]) (fun _ => [F]) (fun i => bs.length - i) 0 (Nat.zero_le _) ?_
  intro i hi
  refine sr ?_
  refine rr (rd_lt rfl rfl) ?_
  refine nx ?_
  refine do_seq ?_
  first | refine do_condp rfl (fun h13 => ?_) (fun h13 => ?_) | refine do_cond rfl (fun h13 => ?_) (fun h13 => ?_)
  · have hx := List.getElem?_eq_getElem (l := bs) (i := i) (by omega)
    have htk := take_get' hx
    generalize bs[i]'_ = b at hx htk
    have hb : b.toNat < 256 := b.toNat_lt
    have hcell : (bs.map bcell)[i]? = some (bcell b) := by rw [List.getElem?_map, hx]; rfl
    refine St.vw_some hF (by repeat (first | with_reducible exact Sel.head | apply Sel.tail)) (by omega) (fun g of hg _ _ => ?_)
    subst hg
    refine do_skip ?_
    refine St.then_n ?_
    refine do_seq ?_
    refine do_block ?_
    refine sr ?_
    refine rr ((rd_indexAddr Try.underlying44 ei5 rfl rfl (by omega) (by omega)).eq (show _ = Value.pointer (some ⟨g, of + i, none⟩) by simp)) ?_
    refine rr (rd_ld rfl row5 (Vw.cells1 hF (by repeat (first | with_reducible exact Sel.head | apply Sel.tail)) (by omega) hcell)) ?_
    refine rr (rd_assign rfl) ?_
    refine nx ?_
    refine sr ?_
    refine rr (rd_move rfl) ?_
    refine rr (rd_move rfl) ?_
    refine rr (rd_conv (kk := .u8) (i := b.toNat) Try.underlying5 Try.underlying121 rfl) ?_
    refine rr (rd_xor rfl rfl) ?_
    refine rr (rd_assign rfl) ?_
    refine run_nil ?_
    refine St.kp [(5, _), (10, _), (11, _), (12, _)] ?_
    refine St.then_n ?_
    refine sr ?_
    refine rr (rd_move rfl) ?_
    refine nx ?_
    refine do_block ?_
    refine do_lp (fun j : Nat => j ≤ 8) (fun j => [(5, .int .u32 (shN j (IntKind.u32.wrap (BitVec.ofInt IntKind.u32.bits ((bs.take i).foldl crcS (comF s)) ^^^ BitVec.ofInt IntKind.u32.bits (IntKind.u32.wrap b.toNat)).toNat))), (10, .slice (some ⟨g, of, none⟩) bs.length c), (11, .int .i64 bs.length), (12, .int .i64 i), (20, .int .i64 j)]) (fun _ => [F]) (fun j => 8 - j) 0 (Nat.zero_le _) ?_
    intro j hj
    refine sr ?_
    refine rr (rd_lt rfl rfl) ?_
    refine nx ?_
    refine do_seq ?_
    first | refine do_condp rfl (fun h21 => ?_) (fun h21 => ?_) | refine do_cond rfl (fun h21 => ?_) (fun h21 => ?_)
    · refine do_skip ?_
      refine St.then_n ?_
      refine do_seq ?_
      refine do_block ?_
      refine do_region ?_
      refine rr (rd_move rfl) ?_
      refine rc (hs := shifted_spec _ _) (k := ?_)
      rintro ⟨⟩ -
      try simp only [List.cons_append, List.nil_append]
      refine rr (rd_assign rfl) ?_
      refine run_nil ?_
      refine St.blk_n ?_
      refine St.then_n ?_
      refine do_region ?_
      refine rr (rd_addi rfl rfl) ?_
      refine rr (rd_move rfl) ?_
      refine run_nil ?_
      refine St.kp [(5, _), (10, _), (11, _), (12, _), (20, _)] ?_
      refine St.then_n ?_
      exact loop_bk (j + 1) (by omega) (hμ := by omega)
    · obtain rfl : j = 8 := by omega
      refine do_exit ?_
      refine St.then_x ?_
      refine St.then_x ?_
      refine St.blk_s ?_
      refine St.blk_n ?_
      refine St.then_n ?_
      refine do_region ?_
      refine rr (rd_addi rfl rfl) ?_
      refine rr (rd_move rfl) ?_
      refine nx ?_
      exact loop_bk (i + 1) (by omega) (hμ := by omega) (hβ := ⟨by rw [htk, List.foldl_append]; rfl, rfl, rfl, rfl, trivial⟩)
  · rw [List.take_of_length_le (by omega)]
    refine do_exit ?_
    refine St.then_x ?_
    refine St.then_x ?_
    refine St.blk_s ?_
    refine St.then_n ?_
    refine sr ?_
    refine rr (rd_move rfl) ?_
    refine rr (rd_com rfl) ?_
    refine rr (rd_assign rfl) ?_
    refine run_nil ?_
    refine St.kp [(4, _)] ?_
    refine St.then_n ?_
    refine do_ret ?_
    refine do_ret1 Try.results72 (res_tmp rfl) ?_
    intro w hw
    exact ⟨(), trivial, rfl, hw.sb⟩
theorem sum_spec (F : HP) (v : Value) (bs : List UInt8) (hF : VwB F v bs) : Spec Try.prog 56 [v] [] F (fun _ : Unit => True) (fun _ => .int .u32 (crcF bs)) (fun _ => []) := by
  intro ω w hh
  refine enter Try.func56 rfl Try.ntmps56 rfl hh ?_
  simp only [List.nil_append, argsB]
  refine sr ?_
  refine rr (rd_assign rfl) ?_
  refine nx ?_
  refine sr ?_
  refine rr (rd_move rfl) ?_
  refine rc (hs := more_spec _ v bs 0 (hF.sep (by repeat (first | with_reducible exact Sel.head | apply Sel.tail)))) (k := ?_)
  rintro ⟨⟩ -
  try simp only [List.cons_append, List.nil_append]
  refine rr (rd_assign rfl) ?_
  refine nx ?_
  refine do_ret ?_
  refine do_ret1 Try.results56 (res_tmp rfl) ?_
  intro w hw
  exact ⟨(), trivial, rfl, hw.sb⟩
end Go.Proofs.Ytgeldfgcicjidaa
