/-
  Reading bytes: what comes of it, in plain words; the program's reader.
-/
import Derived.Test.YtglcmlicfmmlpaaC4
import Derived.Test.YtglcmlicfmmlpaaCloneB
namespace Go.Proofs.Ytglcmlicfmmlpaa
open Go.RowKit
set_option linter.unusedSimpArgs false
set_option linter.unusedVariables false

theorem cloneB_spec (F : HP) (v : Value) (bs : List UInt8) (hF : VwB F v bs) (hl : bs.length ≤ 140737488355328) : Spec Try.prog 118 [v] [] F (fun _ : Value => True) (fun v' => v') (fun v' => [bytesO v' bs]) := fun ω w hh => by
  refine (clone_bytes (fun _ => True) v bs w (hF.sl .head hh) hl).mono ?_
  rintro e w' ⟨A, c, he, h1, -, h2⟩
  exact ⟨_, trivial, he, own_new hh h2 h1⟩
/-- Where a reader stands, and what went wrong. -/
structure RS where
  at_ : Nat
  why : Int
/-- The number at the head of bytes: it, how many bytes it has, what went wrong. -/
def scanF : Nat → Nat → List UInt8 → Nat × Nat × Int
  | _, acc, [] => (acc, 0, 10)
  | i, acc, c :: l => if i = 9 ∧ 1 < c.toNat ∨ 0 < i ∧ c.toNat = 0 then (acc, 0, 11) else
      if c.toNat < 128 then (acc + c.toNat % 128 * 128 ^ i, i + 1, 0) else scanF (i + 1) (acc + c.toNat % 128 * 128 ^ i) l
theorem scanF_cons (i acc : Nat) (c : UInt8) (l : List UInt8) : scanF i acc (c :: l) = if i = 9 ∧ 1 < c.toNat ∨ 0 < i ∧ c.toNat = 0 then (acc, 0, 11) else
      if c.toNat < 128 then (acc + c.toNat % 128 * 128 ^ i, i + 1, 0) else scanF (i + 1) (acc + c.toNat % 128 * 128 ^ i) l := rfl
def rU (B : List UInt8) (s : RS) : Nat × RS :=
  if s.why ≠ 0 then (0, s) else
    if (scanF 0 0 (B.drop s.at_)).2.2 ≠ 0 then (0, ⟨s.at_, (scanF 0 0 (B.drop s.at_)).2.2⟩) else ((scanF 0 0 (B.drop s.at_)).1, ⟨s.at_ + (scanF 0 0 (B.drop s.at_)).2.1, 0⟩)
def unzig (n : Nat) : Int := if n % 2 = 1 then -((n / 2 : Nat) : Int) - 1 else ((n / 2 : Nat) : Int)
def rI (B : List UInt8) (s : RS) : Int × RS := (unzig (rU B s).1, (rU B s).2)
/-- A number of things, at most so many. -/
def rN (most : Nat) (B : List UInt8) (s : RS) : Nat × RS :=
  if s.why ≠ 0 then (0, s) else
    if (rU B s).2.why ≠ 0 then (0, ⟨s.at_, (rU B s).2.why⟩) else
      if most < (rU B s).1 then (0, ⟨s.at_, 3⟩) else
        if B.length - (rU B s).2.at_ < (rU B s).1 then (0, ⟨s.at_, 10⟩) else rU B s
def rB (B : List UInt8) (s : RS) : List UInt8 × RS :=
  if (rN 65536 B s).2.why ≠ 0 then ([], (rN 65536 B s).2) else ((B.drop (rN 65536 B s).2.at_).take (rN 65536 B s).1, ⟨(rN 65536 B s).2.at_ + (rN 65536 B s).1, 0⟩)
def rT (B : List UInt8) (s : RS) : Bool × RS :=
  if s.why ≠ 0 then (false, s) else
    match B[s.at_]? with
    | none => (false, ⟨s.at_, 10⟩)
    | some c => if 1 < c.toNat then (false, ⟨s.at_, 11⟩) else (decide (c.toNat = 1), ⟨s.at_ + 1, 0⟩)
def rE (B : List UInt8) (s : RS) : Int := if s.why = 0 ∧ s.at_ < B.length then 11 else s.why
/-- Does the reader stand in its bytes? -/
def RS.ok (B : List UInt8) (s : RS) : Prop := s.at_ ≤ B.length
theorem scanF_size : ∀ (l : List UInt8) (i acc : Nat), (scanF i acc l).2.1 ≤ i + l.length
  | [], i, acc => by simp [scanF]
  | c :: l, i, acc => by
    unfold scanF
    split
    · simp
    · split
      · simp
      · have := scanF_size l (i + 1) (acc + c.toNat % 128 * 128 ^ i)
        simp; omega
/-- Bytes that a reader reads, and where it stands. -/
def rdO (T : TypeId) (r : Nat) (B : List UInt8) (s : RS) : HP := fun h => ∃ A cap, Sep [pts r T [.slice A B.length cap, .int .i64 s.at_, .int .i64 s.why], bytesO (.slice A B.length cap) B] h
section
variable {ω : Amb} {m : Nat} {ds : List Deferred} {Γ Γ1 : List HP} {β : List (Nat × Value)} {K : Act → World → Prop} {T r : Nat} {B : List UInt8} {s : RS}
theorem St.rd_open (h : ∀ A cap, St ω m ds (pts r T [.slice A B.length cap, .int .i64 s.at_, .int .i64 s.why] :: bytesO (.slice A B.length cap) B :: Γ) β K) : St ω m ds (rdO T r B s :: Γ) β K := by
  unfold rdO
  exact St.ex fun A => St.ex fun cap => St.flat (h A cap)
theorem Holds.rd_shut {w : World} {A : Option Addr} {cap : Nat} (s : RS) (p : Pick [pts r T [.slice A B.length cap, .int .i64 s.at_, .int .i64 s.why], bytesO (.slice A B.length cap) B] Γ Γ1) (h : Holds ω Γ w) : Holds ω (rdO T r B s :: Γ1) w :=
  Holds.ent (fun _ h => ⟨A, cap, h⟩) (Holds.flat.2 (Holds.unpick (h.pick p)))
theorem St.rd_shut {A : Option Addr} {cap : Nat} (s : RS) (p : Pick [pts r T [.slice A B.length cap, .int .i64 s.at_, .int .i64 s.why], bytesO (.slice A B.length cap) B] Γ Γ1) (h : St ω m ds (rdO T r B s :: Γ1) β K) : St ω m ds Γ β K := fun a w b c =>
  h a w (Holds.rd_shut s p b) c
theorem ok_spec (F : HP) : Spec Try.prog 121 [.pointer (some ⟨r, 0, none⟩)] [rdO 189 r B s] F (fun _ : Unit => True) (fun _ => .bool (decide (s.why = 0))) (fun _ => [rdO 189 r B s]) := by
  intro ω w hh
  refine enter Try.func121 rfl Try.ntmps121 rfl hh ?_
  simp only [List.cons_append, List.nil_append, argsB]
  refine St.rd_open fun A cap => ?_
  refine do_seq ?_
  refine do_region ?_
  refine run_read rfl (by decide) (fun _ => nofun) (rd_assign rfl) ?_
  refine run_nil ?_
  refine St.then_n ?_
  refine do_seq ?_
  refine do_region ?_
  refine run_read rfl (by decide) (fun _ => nofun) (rd_move rfl) ?_
  refine run_read rfl (by decide) (fun _ => nofun) (rd_ptr_ne_nil Try.underlying146 rfl rfl) ?_
  refine run_read rfl (by decide) (fun _ => nofun) (rd_move rfl) ?_
  first | (refine run_skip rfl rfl ?_) | (refine run_read rfl (by decide) (fun _ => nofun) (rd_move rfl) ?_)
  first | (refine run_skip rfl rfl ?_) | (refine run_read rfl (by decide) (fun _ => nofun) (rd_nilCheck rfl) ?_)
  first | (refine run_skip rfl rfl ?_) | (first | refine run_read rfl (by decide) (fun _ => nofun) (rd_fieldAddr0 rfl fld189_2) ?_ | refine run_read rfl (by decide) (fun _ => nofun) (rd_fieldAddr rfl fld189_2) ?_)
  first | (refine run_skip rfl rfl ?_) | (refine run_read rfl (by decide) (fun _ => nofun) (rd_load rfl row25 (cells_pts1 (by repeat (first | with_reducible exact Sel.head | apply Sel.tail)) rfl)) ?_)
  first | (refine run_skip rfl rfl ?_) | (refine run_read rfl (by decide) (fun _ => nofun) (rd_eq rfl rfl) ?_)
  first | refine run_read rfl (by decide) (fun _ => nofun) (rd_pick_t rfl rfl) ?_ | refine run_read rfl (by decide) (fun _ => nofun) (rd_pick_f rfl rfl) ?_
  refine run_read rfl (by decide) (fun _ => nofun) (rd_assign rfl) ?_
  refine run_nil ?_
  refine St.keep (β' := [(2, _)]) ⟨rfl, trivial⟩ ?_
  refine St.then_n ?_
  refine do_ret ?_
  refine do_ret1 Try.results121 (res_tmp rfl) ?_
  intro w hw
  exact ⟨(), trivial, rfl, Holds.rd_shut s (by repeat (first | exact Pick.nil | apply Pick.cons (by repeat (first | with_reducible exact Sel.head | apply Sel.tail)))) hw⟩
theorem newReader_spec (F : HP) (v : Value) (hF : VwB F v B) (hl : B.length ≤ 140737488355328) : Spec Try.prog 82 [v] [] F (fun _ : Nat => True) (fun r => .pointer (some ⟨r, 0, none⟩)) (fun r => [rdO 189 r B ⟨0, 0⟩]) := by
  intro ω w hh
  refine enter Try.func82 rfl Try.ntmps82 rfl hh ?_
  simp only [List.nil_append, argsB]
  refine do_seq ?_
  refine do_region ?_
  refine run_read rfl (by decide) (fun _ => nofun) (rd_assign rfl) ?_
  refine run_nil ?_
  refine St.then_n ?_
  refine do_seq ?_
  refine do_region ?_
  refine run_read rfl (by decide) (fun _ => nofun) (rd_move rfl) ?_
  refine run_spec rfl (by decide) (by kernel_rfl) rfl (by repeat (first | exact Pick.nil | apply Pick.cons (by repeat (first | with_reducible exact Sel.head | apply Sel.tail)))) (cloneB_spec _ v B (by first | with_reducible exact vwb_nil _ | exact Vw.sep hF (by repeat (first | with_reducible exact Sel.head | apply Sel.tail)) | exact Vw.sep hG (by repeat (first | with_reducible exact Sel.head | apply Sel.tail)) | exact Vw.sep vw_bytes (by repeat (first | with_reducible exact Sel.head | apply Sel.tail))) hl) ?_
  rintro v1 -
  refine St.vw vw_bytes .head (fun A c hv _ _ _ => ?_)
  subst hv
  try simp only [List.cons_append, List.nil_append]
  refine run_read rfl (by decide) (fun _ => nofun) (rd_buildM (l := [(0, (Operand.tmp 4))]) (vs := [_, _, _]) zero189 plc189 rfl rfl) ?_
  refine run_box_row rfl (by decide) rfl (fun b6 => ?_)
  refine run_read rfl (by decide) (fun _ => nofun) (rd_assign rfl) ?_
  refine run_nil ?_
  refine St.keep (β' := [(2, _)]) ⟨rfl, trivial⟩ ?_
  refine St.then_n ?_
  refine do_ret ?_
  refine do_ret1 Try.results82 (res_tmp rfl) ?_
  intro w hw
  have h9 : Holds ω [pts b6 189 [.slice A B.length c, .int .i64 0, .int .i64 0], bytesO (.slice A B.length c) B, F] w := hw.sub (by repeat (first | exact Pick.nil | apply Pick.cons (by repeat (first | with_reducible exact Sel.head | apply Sel.tail))))
  exact ⟨b6, trivial, rfl, Holds.rd_shut (A := A) (cap := c) ⟨0, 0⟩ (.cons .head (.cons .head .nil)) h9⟩
/-- What is left of the bytes. -/
theorem left_spec (F : HP) (A : Option Addr) (cap : Nat) (hs : s.at_ ≤ B.length) : Spec Try.prog 122 [.pointer (some ⟨r, 0, none⟩)] [pts r 189 [.slice A B.length cap, .int .i64 s.at_, .int .i64 s.why], bytesO (.slice A B.length cap) B] F (fun _ : Unit => True) (fun _ => .slice (subA A cap s.at_ 1) (B.length - s.at_) (cap - s.at_))
    (fun _ => [pts r 189 [.slice A B.length cap, .int .i64 s.at_, .int .i64 s.why], bytesO (.slice A B.length cap) B]) := by
  intro ω w hh
  refine enter Try.func122 rfl Try.ntmps122 rfl hh ?_
  simp only [List.cons_append, List.nil_append, argsB]
  refine St.vw vw_bytes (.tail .head) (fun A' c' hv h1 h2 _ => ?_)
  cases hv
  refine do_seq ?_
  refine do_region ?_
  refine run_read rfl (by decide) (fun _ => nofun) (rd_assign rfl) ?_
  refine run_nil ?_
  refine St.then_n ?_
  refine do_seq ?_
  refine do_draw [[1, 2, 3, 8, 9], [2, 3, 8, 9], [3, 8, 9], [8, 9], [5, 6, 7, 8, 9], [6, 7, 8, 9], [7, 8, 9], [8, 9], [9], []] (by kernel_rfl) rfl ?_
  refine any_take (i := 0) (by kernel_rfl) rfl rfl (by decide) (fun _ _ _ _ _ h => h) rfl (rd_move rfl) ?_
  refine any_take (i := 1) (by kernel_rfl) rfl rfl (by decide) (fun _ _ _ _ _ h => h) rfl (rd_nilCheck rfl) ?_
  first | refine any_take (i := 2) (by kernel_rfl) rfl rfl (by decide) (fun _ _ _ _ _ h => h) rfl (rd_fieldAddr0 rfl fld189_0) ?_ | refine any_take (i := 2) (by kernel_rfl) rfl rfl (by decide) (fun _ _ _ _ _ h => h) rfl (rd_fieldAddr rfl fld189_0) ?_
  refine any_take (i := 3) (by kernel_rfl) rfl rfl (by decide) (fun _ _ _ _ _ h => h) rfl (rd_load rfl row26 (cells_pts1 (by repeat (first | with_reducible exact Sel.head | apply Sel.tail)) rfl)) ?_
  refine any_take (i := 4) (by kernel_rfl) rfl rfl (by decide) (fun _ _ _ _ _ h => h) rfl (rd_move rfl) ?_
  refine any_take (i := 5) (by kernel_rfl) rfl rfl (by decide) (fun _ _ _ _ _ h => h) rfl (rd_nilCheck rfl) ?_
  first | refine any_take (i := 6) (by kernel_rfl) rfl rfl (by decide) (fun _ _ _ _ _ h => h) rfl (rd_fieldAddr0 rfl fld189_1) ?_ | refine any_take (i := 6) (by kernel_rfl) rfl rfl (by decide) (fun _ _ _ _ _ h => h) rfl (rd_fieldAddr rfl fld189_1) ?_
  refine any_take (i := 7) (by kernel_rfl) rfl rfl (by decide) (fun _ _ _ _ _ h => h) rfl (rd_load rfl row3 (cells_pts1 (by repeat (first | with_reducible exact Sel.head | apply Sel.tail)) rfl)) ?_
  refine any_take (i := 8) (by kernel_rfl) rfl rfl (by decide) (fun _ _ _ _ _ h => h) rfl (rd_slice (i := s.at_) (j := B.length) Try.underlying26 ei5 rfl rfl rfl (by omega) (by omega) (by omega)) ?_
  refine any_take (i := 9) (by kernel_rfl) rfl rfl (by decide) (fun _ _ _ _ _ h => h) rfl (rd_assign rfl) ?_
  refine any_nil (by kernel_rfl) ?_
  refine St.keep (β' := [(2, _)]) ⟨rfl, trivial⟩ ?_
  refine St.then_n ?_
  refine do_ret ?_
  refine do_ret1 Try.results122 (res_tmp rfl) ?_
  intro w hw
  exact ⟨(), trivial, rfl, hw.sub (by repeat (first | exact Pick.nil | apply Pick.cons (by repeat (first | with_reducible exact Sel.head | apply Sel.tail))))⟩
theorem vw_left {A : Option Addr} {cap n : Nat} (hn : n ≤ B.length) : VwB (bytesO (.slice A B.length cap) B) (.slice (subA A cap n 1) (B.length - n) (cap - n)) (B.drop n) := by
  have := Vw.sub (F := bytesO (.slice A B.length cap) B) (k := 1) vw_bytes (i := n) (j := B.length) (by decide) hn (Nat.le_refl _)
  unfold VwB
  rw [List.length_drop, List.map_drop]
  rw [List.take_of_length_le (by simp), Nat.mul_one] at this
  exact this
theorem u64_or (a b : Nat) (ha : a < 18446744073709551616) (hb : b < 18446744073709551616) : Value.int .u64 (IntKind.u64.wrap (BitVec.ofInt IntKind.u64.bits (a : Int) ||| BitVec.ofInt IntKind.u64.bits (b : Int)).toNat) = .int .u64 ((a ||| b : Nat) : Int) := by
  have e : (BitVec.ofInt IntKind.u64.bits (a : Int) ||| BitVec.ofInt IntKind.u64.bits (b : Int)).toNat = a ||| b := by
    show (BitVec.ofInt 64 (a : Int) ||| BitVec.ofInt 64 (b : Int)).toNat = _
    rw [BitVec.ofInt_natCast, BitVec.ofInt_natCast, BitVec.toNat_or, BitVec.toNat_ofNat, BitVec.toNat_ofNat, Nat.mod_eq_of_lt ha, Nat.mod_eq_of_lt hb]
  have hor : a ||| b < 2 ^ 64 := Nat.or_lt_two_pow ha hb
  rw [e, IntWalk.u64_in _ (by omega)]
set_option maxRecDepth 10000 in
theorem and127 : ∀ q : Fin 256, (BitVec.ofNat 8 q.val &&& BitVec.ofNat 8 127).toNat = q.val % 128 := by decide
theorem u8_and (c : UInt8) : Value.int .u8 (IntKind.u8.wrap (BitVec.ofInt IntKind.u8.bits (c.toNat : Int) &&& BitVec.ofInt IntKind.u8.bits 127).toNat) = .int .u8 ((c.toNat % 128 : Nat) : Int) := by
  have hc : c.toNat < 256 := c.toNat_lt
  have e : (BitVec.ofInt IntKind.u8.bits (c.toNat : Int) &&& BitVec.ofInt IntKind.u8.bits 127).toNat = c.toNat % 128 := by
    have e1 : BitVec.ofInt IntKind.u8.bits (c.toNat : Int) = BitVec.ofNat 8 c.toNat := BitVec.ofInt_natCast 8 _
    have e2 : BitVec.ofInt IntKind.u8.bits 127 = BitVec.ofNat 8 127 := rfl
    rw [e1, e2]
    exact and127 ⟨c.toNat, hc⟩
  rw [e, IntWalk.u8_in _ (by omega)]
theorem shl_in (q i : Nat) (hq : q < 128) (hi : i ≤ 9) (h9 : i = 9 → q ≤ 1) : Value.int .u64 (IntKind.u64.wrap ((q : Int) * 2 ^ (min ((7 : Int) * i).toNat IntKind.u64.bits))) = .int .u64 ((q * 128 ^ i : Nat) : Int) ∧ q * 128 ^ i < 18446744073709551616 := by
  have hm : min ((7 : Int) * i).toNat IntKind.u64.bits = 7 * i := by
    have : IntKind.u64.bits = 64 := rfl
    omega
  have hp : (2 : Nat) ^ (7 * i) = 128 ^ i := by rw [Nat.pow_mul]
  have hlt : q * 128 ^ i < 18446744073709551616 := by
    rcases Nat.lt_or_ge i 9 with h | h
    · have : 128 ^ i ≤ 128 ^ 8 := Nat.pow_le_pow_right (by omega) (by omega)
      have h8 : (128 : Nat) ^ 8 = 72057594037927936 := by decide
      have : q * 128 ^ i ≤ 127 * 72057594037927936 := Nat.mul_le_mul (by omega) (by omega)
      omega
    · obtain rfl : i = 9 := by omega
      have := h9 rfl
      have h8 : (128 : Nat) ^ 9 = 9223372036854775808 := by decide
      rw [h8]; omega
  refine ⟨?_, hlt⟩
  rw [hm]
  have e : (q : Int) * 2 ^ (7 * i) = ((q * 128 ^ i : Nat) : Int) := by rw [← hp]; push_cast; rfl
  rw [e, IntWalk.u64_in _ (by omega)]
theorem or_add (a q i : Nat) (ha : a < 128 ^ i) : a ||| q * 128 ^ i = a + q * 128 ^ i := by
  have hp : (2 : Nat) ^ (7 * i) = 128 ^ i := by rw [Nat.pow_mul]
  rw [← hp] at ha ⊢
  rw [Nat.or_comm, Nat.mul_comm, ← Nat.two_pow_add_eq_or_of_lt ha, Nat.add_comm]
end
end Go.Proofs.Ytglcmlicfmmlpaa
