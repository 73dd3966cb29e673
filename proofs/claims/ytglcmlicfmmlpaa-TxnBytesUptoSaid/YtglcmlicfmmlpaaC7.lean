/-
  Reading bytes: the program's signed numbers, counts, bytes, texts, truths.
-/
import Derived.Test.YtglcmlicfmmlpaaC6
namespace Go.Proofs.Ytglcmlicfmmlpaa
open Go.RowKit
set_option linter.unusedSimpArgs false
set_option linter.unusedVariables false

theorem scanF_lt : ∀ (l : List UInt8) (i acc n z : Nat), i ≤ 9 → acc < 128 ^ i → scanF i acc l = (n, z, 0) → n < 18446744073709551616
  | [], i, acc, n, z, _, _, h => by simp [scanF] at h
  | c :: l, i, acc, n, z, hi, ha, h => by
    rw [scanF_cons] at h
    split at h
    · simp at h
    · rename_i hf
      split at h
      · rename_i h128
        obtain ⟨_, hlt⟩ := shl_in (c.toNat % 128) i (Nat.mod_lt _ (by omega)) hi (by intro h; omega)
        simp only [Prod.mk.injEq] at h
        obtain ⟨rfl, _, _⟩ := h
        have h9 : 128 ^ i ≤ 128 ^ 9 := Nat.pow_le_pow_right (by omega) hi
        have h8 : (128 : Nat) ^ 9 = 9223372036854775808 := by decide
        rcases Nat.lt_or_ge i 9 with h10 | h10
        · have h11 : 128 ^ i ≤ 128 ^ 8 := Nat.pow_le_pow_right (by omega) (by omega)
          have h12 : (128 : Nat) ^ 8 = 72057594037927936 := by decide
          have : c.toNat % 128 * 128 ^ i ≤ 127 * 72057594037927936 := Nat.mul_le_mul (by omega) (by omega)
          omega
        · obtain rfl : i = 9 := by omega
          have : c.toNat % 128 * 128 ^ 9 ≤ 1 * 128 ^ 9 := Nat.mul_le_mul_right _ (by omega)
          omega
      · refine scanF_lt l (i + 1) _ n z ?_ ?_ h
        · omega
        · have : c.toNat % 128 * 128 ^ i ≤ 127 * 128 ^ i := Nat.mul_le_mul_right _ (by omega)
          rw [Nat.pow_succ]; omega
section
variable {r : Nat} {B : List UInt8} {s : RS}
theorem rU_lt (B : List UInt8) (s : RS) : (rU B s).1 < 18446744073709551616 := by
  by_cases hy : s.why = 0
  · obtain ⟨⟨n, z, y⟩, he⟩ : ∃ q, scanF 0 0 (B.drop s.at_) = q := ⟨_, rfl⟩
    by_cases h : y = 0
    · rw [rU_good hy he h]
      subst h
      exact scanF_lt _ 0 0 n z (by omega) (by simp) he
    · rw [rU_bad hy he h]; simp
  · rw [rU_err hy]; simp
theorem rU_ok (hs : s.at_ ≤ B.length) : (rU B s).2.at_ ≤ B.length := by
  by_cases hy : s.why = 0
  · obtain ⟨⟨n, z, y⟩, he⟩ : ∃ q, scanF 0 0 (B.drop s.at_) = q := ⟨_, rfl⟩
    have hz := scanF_size (B.drop s.at_) 0 0
    rw [he, List.length_drop] at hz
    dsimp only at hz
    by_cases h : y = 0
    · rw [rU_good hy he h]; dsimp only; omega
    · rw [rU_bad hy he h]; exact hs
  · rw [rU_err hy]; exact hs
theorem unzig_eq (n : Nat) (hn : n < 18446744073709551616) :
    Value.int .i64 (IntKind.i64.wrap (BitVec.ofInt IntKind.i64.bits ((n / 2 : Nat) : Int) ^^^ BitVec.ofInt IntKind.i64.bits (0 - ((n % 2 : Nat) : Int))).toNat) = .int .i64 (unzig n) := by
  have hw : ∀ m : Nat, IntKind.i64.wrap (m : Int) = ((m : Int) + 9223372036854775808) % 18446744073709551616 - 9223372036854775808 := fun m => by
    rw [IntKind.wrap_i64]
  congr 1
  rcases Nat.mod_two_eq_zero_or_one n with h | h
  · rw [h]
    have e : (BitVec.ofInt IntKind.i64.bits ((n / 2 : Nat) : Int) ^^^ BitVec.ofInt IntKind.i64.bits (0 - ((0 : Nat) : Int))).toNat = n / 2 := by
      show (BitVec.ofInt 64 ((n / 2 : Nat) : Int) ^^^ BitVec.ofInt 64 0).toNat = _
      rw [BitVec.ofInt_natCast, show BitVec.ofInt 64 0 = 0#64 from rfl, BitVec.xor_zero, BitVec.toNat_ofNat]
      omega
    rw [e, IntWalk.i64_in _ (by omega)]
    simp [unzig, h]
  · rw [h]
    have e : (BitVec.ofInt IntKind.i64.bits ((n / 2 : Nat) : Int) ^^^ BitVec.ofInt IntKind.i64.bits (0 - ((1 : Nat) : Int))).toNat = 18446744073709551615 - n / 2 := by
      show (BitVec.ofInt 64 ((n / 2 : Nat) : Int) ^^^ BitVec.ofInt 64 (-1)).toNat = _
      rw [BitVec.ofInt_natCast, show BitVec.ofInt 64 (-1) = BitVec.allOnes 64 from by decide, BitVec.xor_allOnes, BitVec.toNat_not, BitVec.toNat_ofNat]
      omega
    rw [e, hw]
    simp only [unzig, h, if_true]
    omega
theorem and1 (n : Nat) : Value.int .u64 (IntKind.u64.wrap (BitVec.ofInt IntKind.u64.bits (n : Int) &&& BitVec.ofInt IntKind.u64.bits 1).toNat) = .int .u64 ((n % 2 : Nat) : Int) := by
  have e : (BitVec.ofInt IntKind.u64.bits (n : Int) &&& BitVec.ofInt IntKind.u64.bits 1).toNat = n % 2 := by
    show (BitVec.ofInt 64 (n : Int) &&& BitVec.ofInt 64 1).toNat = _
    rw [BitVec.ofInt_natCast, show BitVec.ofInt 64 1 = 1#64 from rfl, BitVec.toNat_and, BitVec.toNat_ofNat]
    show n % 2 ^ 64 &&& 1 = _
    rw [Nat.and_one_is_mod]
    omega
  rw [e, IntWalk.u64_in _ (by omega)]
theorem shr1 (n : Nat) : Value.int .u64 ((n : Int).fdiv (2 ^ (min (1 : Int).toNat IntKind.u64.bits))) = .int .u64 ((n / 2 : Nat) : Int) := by
  congr 1
  simp [IntKind.bits]
  rw [Int.fdiv_eq_ediv_of_nonneg _ (by omega)]
theorem rdInt_spec (F : HP) (hs : s.at_ ≤ B.length) (hl : B.length ≤ 140737488355328) :
    Spec Try.prog 83 [.pointer (some ⟨r, 0, none⟩)] [rdO 189 r B s] F (fun _ : Unit => True) (fun _ => .int .i64 (rI B s).1) (fun _ => [rdO 189 r B (rI B s).2]) := by
  intro ω w hh
  refine enter Try.func83 rfl Try.ntmps83 rfl hh ?_
  simp only [List.cons_append, List.nil_append, argsB]
  have hlt := rU_lt B s
  unfold rI
  dsimp only
  refine do_seq ?_
  refine do_region ?_
  refine run_read rfl (by decide) (fun _ => nofun) (rd_assign rfl) ?_
  refine run_nil ?_
  refine St.then_n ?_
  refine do_seq ?_
  refine do_region ?_
  refine run_read rfl (by decide) (fun _ => nofun) (rd_move rfl) ?_
  refine run_spec rfl (by decide) (by kernel_rfl) rfl (by repeat (first | exact Pick.nil | apply Pick.cons (by repeat (first | with_reducible exact Sel.head | apply Sel.tail)))) (rdUint_spec _ hs hl) ?_
  rintro ⟨⟩ -
  generalize (rU B s).1 = n at hlt
  try simp only [List.cons_append, List.nil_append]
  refine run_read rfl (by decide) (fun _ => nofun) (rd_assign rfl) ?_
  refine run_nil ?_
  refine St.keep (β' := [(3, _)]) ⟨rfl, trivial⟩ ?_
  refine St.then_n ?_
  refine do_seq ?_
  refine do_region ?_
  refine run_read rfl (by decide) (fun _ => nofun) (rd_move rfl) ?_
  refine run_read rfl (by decide) (fun _ => nofun) ((rd_shr (by decide) rfl rfl).eq (shr1 n)) ?_
  refine run_read rfl (by decide) (fun _ => nofun) ((rd_conv Try.underlying183 Try.underlying2 rfl).eq (show _ = Value.int .i64 ((n / 2 : Nat) : Int) from congrArg _ (IntWalk.i64_in _ (by omega)))) ?_
  refine run_read rfl (by decide) (fun _ => nofun) (rd_move rfl) ?_
  refine run_read rfl (by decide) (fun _ => nofun) ((rd_and rfl rfl).eq (and1 n)) ?_
  refine run_read rfl (by decide) (fun _ => nofun) ((rd_conv Try.underlying183 Try.underlying2 rfl).eq (show _ = Value.int .i64 ((n % 2 : Nat) : Int) from congrArg _ (IntWalk.i64_in _ (by omega)))) ?_
  refine run_read rfl (by decide) (fun _ => nofun) ((rd_neg rfl).eq (show _ = Value.int .i64 (0 - ((n % 2 : Nat) : Int)) from congrArg _ (IntWalk.i64_in _ (by omega)))) ?_
  refine run_read rfl (by decide) (fun _ => nofun) ((rd_xor rfl rfl).eq (unzig_eq n hlt)) ?_
  refine run_read rfl (by decide) (fun _ => nofun) (rd_assign rfl) ?_
  refine run_nil ?_
  refine St.keep (β' := [(2, _)]) ⟨rfl, trivial⟩ ?_
  refine St.then_n ?_
  refine do_ret ?_
  refine do_ret1 Try.results83 (res_tmp rfl) ?_
  intro w hw
  exact ⟨(), trivial, rfl, hw⟩
end
end Go.Proofs.Ytglcmlicfmmlpaa
