/-
  Numbers, bytes and texts behind bytes: what codec.Uint, Bytes, Text make.
-/
import Derived.Test.YtgeldfgcicjidaaK1
import Derived.Test.YtgeldfgcicjidaaS13
namespace Go.Proofs.Ytgeldfgcicjidaa
open Go.RowKit
set_option linter.unusedSimpArgs false
set_option linter.unusedVariables false

/-- A number's bytes, the lowest seven bits first. -/
def uvar (n : Nat) : List UInt8 := if h : n < 128 then [UInt8.ofNat n] else UInt8.ofNat (n % 128 + 128) :: uvar (n / 128)
termination_by n
decreasing_by omega
theorem uvar_small {n : Nat} (h : n < 128) : uvar n = [UInt8.ofNat n] := by rw [uvar]; simp [h]
theorem uvar_big {n : Nat} (h : ¬ n < 128) : uvar n = UInt8.ofNat (n % 128 + 128) :: uvar (n / 128) := by rw [uvar]; simp [h]
theorem uvar_len (n : Nat) : ∀ k, n < 128 ^ k → 0 < k → (uvar n).length ≤ k := by
  intro k
  induction k generalizing n with
  | zero => intro _ h; omega
  | succ k ih =>
    intro h _
    by_cases hn : n < 128
    · rw [uvar_small hn]; simp
    · rw [uvar_big hn]
      have h2 : n / 128 < 128 ^ k := by
        rw [Nat.pow_succ] at h; omega
      have h0 : 0 < k := by
        rcases Nat.eq_zero_or_pos k with rfl | h0
        · simp at h; omega
        · exact h0
      have := ih (n / 128) h2 h0
      simp; omega
theorem uvar_len64 {n : Nat} (h : n < 18446744073709551616) : (uvar n).length ≤ 10 := uvar_len n 10 (by omega) (by omega)
set_option maxRecDepth 10000 in
theorem or128 : ∀ q : Fin 256, (BitVec.ofNat 8 q.val ||| BitVec.ofNat 8 128).toNat = q.val % 128 + 128 := by decide
theorem u8_or (n : Nat) : Value.int .u8 (IntKind.u8.wrap (BitVec.ofInt IntKind.u8.bits (IntKind.u8.wrap (n : Int)) ||| BitVec.ofInt IntKind.u8.bits 128).toNat) = bcell (UInt8.ofNat (n % 128 + 128)) := by
  have h1 : IntKind.u8.wrap (n : Int) = ((n % 256 : Nat) : Int) := by rw [IntKind.wrap_u8]; omega
  have h2 : (BitVec.ofInt IntKind.u8.bits ((n % 256 : Nat) : Int) ||| BitVec.ofInt IntKind.u8.bits 128).toNat = n % 128 + 128 := by
    have e1 : BitVec.ofInt IntKind.u8.bits ((n % 256 : Nat) : Int) = BitVec.ofNat 8 (n % 256) := BitVec.ofInt_natCast 8 _
    have e2 : BitVec.ofInt IntKind.u8.bits 128 = BitVec.ofNat 8 128 := rfl
    rw [e1, e2]
    have hn : n % 256 < 256 := Nat.mod_lt _ (by omega)
    have hm : n % 128 = n % 256 % 128 := by omega
    rw [hm]
    generalize n % 256 = q at hn
    exact or128 ⟨q, hn⟩
  rw [h1, h2, IntWalk.u8_in _ (by omega)]
  unfold bcell
  congr 1
  simp [UInt8.toNat_ofNat']
  omega
theorem u8_of (n : Nat) : Value.int .u8 (IntKind.u8.wrap (n : Int)) = bcell (UInt8.ofNat n) := by
  unfold bcell
  rw [IntKind.wrap_u8]
  simp
theorem shr7 (n : Nat) : Value.int .u64 ((n : Int).fdiv (2 ^ (min (7 : Int).toNat IntKind.u64.bits))) = .int .u64 ((n / 128 : Nat) : Int) := by
  congr 1
  simp [IntKind.bits]
  rw [Int.fdiv_eq_ediv_of_nonneg _ (by omega)]

theorem clip_spec (A : Option Addr) (n c : Nat) (F : HP) (hn : n ≤ c) : Spec Try.prog 86 [.slice A n c] [] F (fun _ : Unit => True) (fun _ => .slice A n n) (fun _ => []) := by
  intro ω w hh
  refine enter Try.func86 rfl Try.ntmps86 rfl hh ?_
  simp only [List.nil_append, argsB]
  refine sr ?_
  refine rr (rd_assign rfl) ?_
  refine nx ?_
  refine sr ?_
  refine rr (rd_move rfl) ?_
  refine rr (rd_move rfl) ?_
  refine rr (rd_len Try.underlying44 rfl) ?_
  refine rr (rd_move rfl) ?_
  refine rr (rd_len Try.underlying44 rfl) ?_
  refine rr (rd_slice3 Try.underlying44 ei5 rfl rfl rfl hn) ?_
  refine rr (rd_assign rfl) ?_
  refine run_nil ?_
  refine St.kp [(2, _)] ?_
  refine St.then_n ?_
  refine do_ret ?_
  refine do_ret1 Try.results86 (res_tmp rfl) ?_
  intro w hw
  exact ⟨(), trivial, rfl, hw⟩
set_option maxHeartbeats 1000000 in
theorem uint_spec (F : HP) (v : Value) (bs : List UInt8) (n : Nat) (hF : VwB F v bs) (hn : n < 18446744073709551616) (hl : bs.length ≤ 70368744177664) :
    Spec Try.prog 69 [v, .int .u64 n] [] F (fun _ : Value => True) (fun v' => v') (fun v' => [bytesO v' (bs ++ uvar n)]) := by
  intro ω w hh
  refine enter Try.func69 rfl Try.ntmps69 rfl hh ?_
  simp only [List.nil_append, argsB]
  refine St.vw hF .head (fun A c hv h1 h2 _ => ?_)
  subst hv
  have hu := uvar_len64 hn
  refine sr ?_
  refine rr (rd_assign rfl) ?_
  refine nx ?_
  refine sr ?_
  refine rr (rd_move rfl) ?_
  refine rc (hs := clip_spec A bs.length c _ h1) (k := ?_)
  rintro ⟨⟩ -
  try simp only [List.cons_append, List.nil_append]
  refine rr (rd_assign rfl) ?_
  refine nx ?_
  refine do_seq ?_
  refine do_block ?_
  refine St.apd_full (X := F) (T := 5) (Vw.clip hF) ?_
  refine do_loop (fun x : Value × List UInt8 × Nat => x.2.1 ++ uvar x.2.2 = uvar n ∧ x.2.2 < 18446744073709551616) (fun x => [(0, x.1), (1, .int .u64 x.2.2)]) (fun x => [apd F x.1 5 1 (bs ++ x.2.1).length ((bs ++ x.2.1).map bcell), F]) (fun x => x.2.2) (.slice A bs.length bs.length, [], n) ⟨rfl, hn⟩ ⟨rfl, rfl, trivial⟩ (by simp only [List.append_nil]; exact (by repeat (first | exact Pick.nil | apply Pick.cons (by repeat (first | with_reducible exact Sel.head | apply Sel.tail))))) ?_
  rintro ⟨v, ws, q⟩ ⟨hws, hq⟩
  dsimp only at hws hq ⊢
  have hwl : ws.length + (uvar q).length = (uvar n).length := by rw [← hws, List.length_append]
  refine do_seq ?_
  refine sr ?_
  refine rr (rd_move rfl) ?_
  refine rr (rd_gt rfl rfl) ?_
  refine nx ?_
  first | refine do_condp rfl (fun h8 => ?_) (fun h8 => ?_) | refine do_cond rfl (fun h8 => ?_) (fun h8 => ?_)
  · have hq1 : ¬ q < 128 := by omega
    have hwl2 : 1 ≤ (uvar q).length := by rw [uvar_big hq1]; simp
    refine do_skip ?_
    refine St.then_n ?_
    refine do_seq ?_
    refine do_block ?_
    refine do_region ?_
    refine rr (rd_move rfl) ?_
    refine rr (rd_move rfl) ?_
    first | refine rr ((rd_conv Try.underlying120 Try.underlying5 rfl).eq (congrArg (Value.int .u8) (IntWalk.u8_in _ (by omega)))) ?_ | refine rr (rd_conv Try.underlying120 Try.underlying5 rfl) ?_
    refine rr ((rd_or rfl rfl).eq (u8_or q)) ?_
    refine run_buildSlice (l := [(Operand.tmp 14)]) rfl (by decide) Try.underlying44 ei5 rfl rfl (by decide) (by decide) (fun b15 => ?_)
    simp only [joinL, cells_agg, cells_int, cells_bcell, cells_bool, cells_string, cells_pointer, cells_slice, cells_map, cells_func, List.cons_append, List.nil_append, List.append_nil]
    refine run_append_apd rfl (by decide) Try.underlying44 ei5 rfl rfl (by repeat (first | with_reducible exact Sel.head | apply Sel.tail)) (X := F) (by repeat (first | with_reducible exact Sel.head | apply Sel.tail)) (src_pts Try.underlying44 (by repeat (first | with_reducible exact Sel.head | apply Sel.tail)) rfl (by decide) rfl) (by decide) (by simp; omega) (by simp [maxLen]; omega) (fun v' => ?_)
    rw [own_bytes (v := v') (bs := bs ++ (ws ++ [UInt8.ofNat (q % 128 + 128)])) (by simp; omega) (by simp)]
    refine rr (rd_assign rfl) ?_
    refine run_nil ?_
    refine St.kp [(0, _), (1, _)] ?_
    refine St.blk_n ?_
    refine St.then_n ?_
    refine do_region ?_
    refine rr (rd_move rfl) ?_
    refine rr ((rd_shr (by decide) rfl rfl).eq (shr7 q)) ?_
    refine rr (rd_assign rfl) ?_
    refine nx ?_
    unfold bytesO
    refine St.apd_own (X := F) ?_
    exact loop_back (v', ws ++ [UInt8.ofNat (q % 128 + 128)], q / 128) ⟨by rw [List.append_assoc]; rw [← hws, uvar_big hq1]; rfl, by dsimp only; omega⟩ (by dsimp only; omega) ⟨rfl, rfl, trivial⟩ (by repeat (first | exact Pick.nil | apply Pick.cons (by repeat (first | with_reducible exact Sel.head | apply Sel.tail))))
  · have hq1 : q < 128 := by omega
    have hwl2 : 1 ≤ (uvar q).length := by rw [uvar_small hq1]; simp
    refine do_exit ?_
    refine St.then_x ?_
    refine St.then_x ?_
    refine St.blk_s ?_
    refine St.then_n ?_
    refine sr ?_
    refine rr (rd_move rfl) ?_
    refine rr (rd_move rfl) ?_
    refine rr ((rd_conv Try.underlying120 Try.underlying5 rfl).eq (u8_of q)) ?_
    refine run_buildSlice (l := [(Operand.tmp 19)]) rfl (by decide) Try.underlying44 ei5 rfl rfl (by decide) (by decide) (fun b20 => ?_)
    simp only [joinL, cells_agg, cells_int, cells_bcell, cells_bool, cells_string, cells_pointer, cells_slice, cells_map, cells_func, List.cons_append, List.nil_append, List.append_nil]
    refine run_append_apd rfl (by decide) Try.underlying44 ei5 rfl rfl (by repeat (first | with_reducible exact Sel.head | apply Sel.tail)) (X := F) (by repeat (first | with_reducible exact Sel.head | apply Sel.tail)) (src_pts Try.underlying44 (by repeat (first | with_reducible exact Sel.head | apply Sel.tail)) rfl (by decide) rfl) (by decide) (by simp; omega) (by simp [maxLen]; omega) (fun v' => ?_)
    rw [own_bytes (v := v') (bs := bs ++ uvar n) (by rw [← hws, uvar_small hq1]; simp; omega) (by rw [← hws, uvar_small hq1]; simp)]
    refine rr (rd_assign rfl) ?_
    refine run_nil ?_
    refine St.kp [(4, _)] ?_
    refine St.then_n ?_
    refine do_ret ?_
    refine do_ret1 Try.results69 (res_tmp rfl) ?_
    intro w hw
    exact ⟨v', trivial, rfl, hw.sub (by repeat (first | exact Pick.nil | apply Pick.cons (by repeat (first | with_reducible exact Sel.head | apply Sel.tail))))⟩

/-- A text behind bytes. -/
def txt (s : List UInt8) : List UInt8 := uvar s.length ++ s
theorem text_spec (F : HP) (v : Value) (bs s : List UInt8) (hF : VwB F v bs) (hs : s.length ≤ 1099511627776) (hl : bs.length ≤ 70368744177664) :
    Spec Try.prog 70 [v, .string (strOf s)] [] F (fun _ : Value => True) (fun v' => v') (fun v' => [bytesO v' (bs ++ uvar s.length ++ s)]) := by
  intro ω w hh
  refine enter Try.func70 rfl Try.ntmps70 rfl hh ?_
  simp only [List.nil_append, argsB]
  have hsz : (strOf s).size = s.length := strOf_size s
  have hul := uvar_len64 (n := s.length) (by omega)
  refine sr ?_
  refine rr (rd_assign rfl) ?_
  refine nx ?_
  refine sr ?_
  refine rr (rd_move rfl) ?_
  refine rr (rd_move rfl) ?_
  refine rr ((rd_lens Try.underlying9 rfl).eq (congrArg (fun k : Nat => Value.int .i64 (k : Int)) hsz)) ?_
  refine rr (rd_cvu Try.underlying3 Try.underlying120 rfl) ?_
  refine rc (hs := uint_spec _ v bs s.length (hF.sep (by repeat (first | with_reducible exact Sel.head | apply Sel.tail))) (by omega) hl) (k := ?_)
  rintro v' -
  try simp only [List.cons_append, List.nil_append]
  refine rr (rd_move rfl) ?_
  refine run_append_src rfl (by decide) Try.underlying44 ei5 rfl rfl .head (fun w _ => src_str Try.underlying9 s w) (by simp; omega) (by simp [maxLen]; omega) (fun v' _ => ?_)
  rw [own_bytes (v := v') (bs := bs ++ uvar s.length ++ s) (by simp; omega) (by simp)]
  refine rr (rd_assign rfl) ?_
  refine run_nil ?_
  refine St.kp [(4, _)] ?_
  refine St.then_n ?_
  refine do_ret ?_
  refine do_ret1 Try.results70 (res_tmp rfl) ?_
  intro w hw
  exact ⟨_, trivial, rfl, hw.sub (by repeat (first | exact Pick.nil | apply Pick.cons (by repeat (first | with_reducible exact Sel.head | apply Sel.tail))))⟩
theorem byt_spec (F : HP) (v u : Value) (bs s : List UInt8) (hF : VwB F v bs) (hG : VwB F u s) (hs : s.length ≤ 1099511627776) (hl : bs.length ≤ 70368744177664) :
    Spec Try.prog 71 [v, u] [] F (fun _ : Value => True) (fun v' => v') (fun v' => [bytesO v' (bs ++ uvar s.length ++ s)]) := by
  intro ω w hh
  refine enter Try.func71 rfl Try.ntmps71 rfl hh ?_
  simp only [List.nil_append, argsB]
  refine St.vw hG .head (fun A c hv h1 h2 _ => ?_)
  subst hv
  have hul := uvar_len64 (n := s.length) (by omega)
  refine sr ?_
  refine rr (rd_assign rfl) ?_
  refine nx ?_
  refine sr ?_
  refine rr (rd_move rfl) ?_
  refine rr (rd_move rfl) ?_
  refine rr (rd_len Try.underlying44 rfl) ?_
  refine rr (rd_cvu Try.underlying3 Try.underlying120 rfl) ?_
  refine rc (hs := uint_spec _ v bs s.length (hF.sep (by repeat (first | with_reducible exact Sel.head | apply Sel.tail))) (by omega) hl) (k := ?_)
  rintro v' -
  try simp only [List.cons_append, List.nil_append]
  refine rr (rd_move rfl) ?_
  refine run_append rfl (by decide) Try.underlying44 ei5 rfl rfl .head hG (by repeat (first | with_reducible exact Sel.head | apply Sel.tail)) (fun c hc => by obtain ⟨b, _, rfl⟩ := List.mem_map.1 hc; rfl) (by simp [maxLen]; omega) (by simp; omega) (fun v' _ => ?_)
  rw [own_bytes (v := v') (bs := bs ++ uvar s.length ++ s) (by simp; omega) (by simp)]
  refine rr (rd_assign rfl) ?_
  refine run_nil ?_
  refine St.kp [(4, _)] ?_
  refine St.then_n ?_
  refine do_ret ?_
  refine do_ret1 Try.results71 (res_tmp rfl) ?_
  intro w hw
  exact ⟨_, trivial, rfl, hw.sub (by repeat (first | exact Pick.nil | apply Pick.cons (by repeat (first | with_reducible exact Sel.head | apply Sel.tail))))⟩
end Go.Proofs.Ytgeldfgcicjidaa
