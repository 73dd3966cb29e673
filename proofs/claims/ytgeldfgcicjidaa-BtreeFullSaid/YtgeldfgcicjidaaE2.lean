/-
  Reading bytes: what comes of it, in plain words; the program's reader; what was written is read back.
-/
import Derived.Test.YtgeldfgcicjidaaE1
namespace Go.Proofs.Ytgeldfgcicjidaa
open Go.RowKit
set_option linter.unusedSimpArgs false
set_option linter.unusedVariables false

theorem bytes_flat (bs : List UInt8) : bs.flatMap (fun b => [bcell b]) = bs.map bcell := by
  induction bs with
  | nil => rfl
  | cons b bs ih => rw [List.flatMap_cons, ih]; rfl
theorem cloneB_spec (F : HP) (v : Value) (bs : List UInt8) (hF : VwB F v bs) (hl : bs.length ≤ 1099511627776) : Spec Try.prog 36 [v] [] F (fun _ : Value => True) (fun v' => v') (fun v' => [bytesO v' bs]) := by
  intro ω w hh
  refine enter Try.func36 rfl Try.ntmps36 rfl hh ?_
  simp only [List.nil_append, argsB]
  refine St.vw hF .head (fun A c hv _ _ _ => ?_)
  subst hv
  refine sr ?_
  refine rr (rd_assign rfl) ?_
  refine nx ?_
  refine do_seq ?_
  refine sr ?_
  refine rr (rd_move rfl) ?_
  refine rr (rd_sl_eq_nil Try.underlying44 rfl rfl) ?_
  refine nx ?_
  first | refine do_condp rfl (fun h4 => ?_) (fun h4 => ?_) | refine do_cond rfl (fun h4 => ?_) (fun h4 => ?_)
  · obtain ⟨rfl, hA0⟩ : A = none ∧ True := by cases A <;> simp_all
    refine sr ?_
    refine rr (rd_assign rfl) ?_
    refine nx ?_
    refine do_ret ?_
    refine St.then_r ?_
    refine do_ret1 Try.results36 (res_tmp rfl) ?_
    intro w hw
    obtain ⟨h, l, hf⟩ := hw.get (P := F) (by repeat (first | with_reducible exact Sel.head | apply Sel.tail))
    obtain ⟨A', c', he, h1, h2, h3, h4⟩ := hF h hf
    cases he
    have h0 : bs = [] := by
      rcases Nat.eq_zero_or_pos bs.length with h0 | h0
      · exact List.eq_nil_of_length_eq_zero h0
      · obtain ⟨g, o, row, T, fr, hA, _⟩ := h4 h0
        cases hA
    subst h0
    exact ⟨.slice none 0 0, trivial, rfl, Holds.own_nil hw.sb⟩
  · refine do_skip ?_
    refine St.then_n ?_
    refine sr ?_
    refine r_bs0 (f := fun b => [bcell b]) Try.underlying44 ei5 (fun g => ?_)
    refine rr (rd_move rfl) ?_
    refine r_apQ (n := 0) (k := 1) (f := fun b => [bcell b]) (M := bs) (fun _ => rfl) (fun _ => rfl) Try.underlying44 ei5 (X := F) (by rw [bytes_flat]; exact hF) rfl (by omega) (by omega) (by omega) (fun v3 _ => ?_)
    rw [Nat.zero_add, List.nil_append]
    refine rr (rd_assign rfl) ?_
    refine run_nil ?_
    refine St.kp [(2, _)] ?_
    refine St.then_n ?_
    refine do_ret ?_
    refine do_ret1 Try.results36 (res_tmp rfl) ?_
    intro w hw
    exact ⟨_, trivial, rfl, Holds.ent (P := ownQ (fun b => [bcell b]) 5 1 v3 bs.length bs) (fun h hp => by have := hp.2; rwa [bytes_flat] at this) hw.sb⟩
/-- Where a reader stands, and what went wrong. -/
structure RS where
  at_ : Nat
  why : Int
/-- The number at the head of bytes: it, how many bytes it has, what went wrong. -/
def scanF : Nat → Nat → List UInt8 → Nat × Nat × Int
  | _, acc, [] => (acc, 0, 10)
  | i, acc, c :: l => if i = 9 ∧ 1 < c.toNat ∨ 0 < i ∧ c.toNat = 0 then (acc, 0, 11) else
      if c.toNat < 128 then (acc + c.toNat % 128 * 128 ^ i, i + 1, 0) else scanF (i + 1) (acc + c.toNat % 128 * 128 ^ i) l
theorem scanF_cons (i acc : Nat) (c : UInt8) (l : List UInt8) : scanF i acc (c :: l) = if i = 9 ∧ 1 < c.toNat ∨ 0 < i ∧ c.toNat = 0 then (acc, 0, 11) else
      if c.toNat < 128 then (acc + c.toNat % 128 * 128 ^ i, i + 1, 0) else scanF (i + 1) (acc + c.toNat % 128 * 128 ^ i) l := rfl
def rU (B : List UInt8) (s : RS) : Nat × RS :=
  if s.why ≠ 0 then (0, s) else
    if (scanF 0 0 (B.drop s.at_)).2.2 ≠ 0 then (0, ⟨s.at_, (scanF 0 0 (B.drop s.at_)).2.2⟩) else ((scanF 0 0 (B.drop s.at_)).1, ⟨s.at_ + (scanF 0 0 (B.drop s.at_)).2.1, 0⟩)
/-- A number of things, at most so many. -/
def rN (most : Nat) (B : List UInt8) (s : RS) : Nat × RS :=
  if s.why ≠ 0 then (0, s) else
    if (rU B s).2.why ≠ 0 then (0, ⟨s.at_, (rU B s).2.why⟩) else
      if most < (rU B s).1 then (0, ⟨s.at_, 3⟩) else
        if B.length - (rU B s).2.at_ < (rU B s).1 then (0, ⟨s.at_, 10⟩) else rU B s
def rB (B : List UInt8) (s : RS) : List UInt8 × RS :=
  if (rN 65536 B s).2.why ≠ 0 then ([], (rN 65536 B s).2) else ((B.drop (rN 65536 B s).2.at_).take (rN 65536 B s).1, ⟨(rN 65536 B s).2.at_ + (rN 65536 B s).1, 0⟩)
def rE (B : List UInt8) (s : RS) : Int := if s.why = 0 ∧ s.at_ < B.length then 11 else s.why
/-- Does the reader stand in its bytes? -/
def RS.ok (B : List UInt8) (s : RS) : Prop := s.at_ ≤ B.length
theorem scanF_size : ∀ (l : List UInt8) (i acc : Nat), (scanF i acc l).2.1 ≤ i + l.length
  | [], i, acc => by simp [scanF]
  | c :: l, i, acc => by
    unfold scanF
    split
    · simp
    · split
      · simp
      · have := scanF_size l (i + 1) (acc + c.toNat % 128 * 128 ^ i)
        simp; omega
/-- Bytes that a reader reads, and where it stands. -/
def rdO (T : TypeId) (r : Nat) (B : List UInt8) (s : RS) : HP := fun h => ∃ A cap, Sep [pts r T [.slice A B.length cap, .int .i64 s.at_, .int .i64 s.why], bytesO (.slice A B.length cap) B] h
section
variable {ω : Amb} {m : Nat} {ds : List Deferred} {Γ Γ1 : List HP} {β : List (Nat × Value)} {K : Act → World → Prop} {T r : Nat} {B : List UInt8} {s : RS}
theorem St.rd_open (h : ∀ A cap, St ω m ds (pts r T [.slice A B.length cap, .int .i64 s.at_, .int .i64 s.why] :: bytesO (.slice A B.length cap) B :: Γ) β K) : St ω m ds (rdO T r B s :: Γ) β K := by
  unfold rdO
  exact St.ex fun A => St.ex fun cap => St.flat (h A cap)
theorem Holds.rd_shut {w : World} {A : Option Addr} {cap : Nat} (s : RS) (p : Pick [pts r T [.slice A B.length cap, .int .i64 s.at_, .int .i64 s.why], bytesO (.slice A B.length cap) B] Γ Γ1) (h : Holds ω Γ w) : Holds ω (rdO T r B s :: Γ1) w :=
  Holds.ent (fun _ h => ⟨A, cap, h⟩) (Holds.flat.2 (Holds.unpick (h.pick p)))
theorem St.rd_shut {A : Option Addr} {cap : Nat} (s : RS) (p : Pick [pts r T [.slice A B.length cap, .int .i64 s.at_, .int .i64 s.why], bytesO (.slice A B.length cap) B] Γ Γ1) (h : St ω m ds (rdO T r B s :: Γ1) β K) : St ω m ds Γ β K := fun a w b c =>
  h a w (Holds.rd_shut s p b) c
theorem ok_spec (F : HP) : Spec Try.prog 90 [.pointer (some ⟨r, 0, none⟩)] [rdO 157 r B s] F (fun _ : Unit => True) (fun _ => .bool (decide (s.why = 0))) (fun _ => [rdO 157 r B s]) := by
  intro ω w hh
  refine enter Try.func90 rfl Try.ntmps90 rfl hh ?_
  simp only [List.cons_append, List.nil_append, argsB]
  refine St.rd_open fun A cap => ?_
  refine sr ?_
  refine rr (rd_assign rfl) ?_
  refine nx ?_
  refine sr ?_
  refine rr (rd_move rfl) ?_
  refine rr (rd_ptr_ne_nil Try.underlying144 rfl rfl) ?_
  refine rr (rd_move rfl) ?_
  first | refine sk ?_ | (refine rr (rd_move rfl) ?_)
  first | refine sk ?_ | (refine rr (rd_nilCheck rfl) ?_)
  first | refine sk ?_ | (refine rr (rd_fa rfl fld157_2) ?_)
  first | refine sk ?_ | (refine rr (rd_ld rfl row30) ?_)
  first | refine sk ?_ | (refine rr (rd_eq rfl rfl) ?_)
  refine rr (rd_pick rfl rfl) ?_
  refine rr (rd_assign rfl) ?_
  refine run_nil ?_
  refine St.kp [(2, _)] ?_
  refine St.then_n ?_
  refine do_ret ?_
  refine do_ret1 Try.results90 (res_tmp rfl) ?_
  intro w hw
  exact ⟨(), trivial, rfl, Holds.rd_shut s (by repeat (first | exact Pick.nil | apply Pick.cons (by repeat (first | with_reducible exact Sel.head | apply Sel.tail)))) hw⟩
theorem newReader_spec (F : HP) (v : Value) (hF : VwB F v B) (hl : B.length ≤ 1099511627776) : Spec Try.prog 75 [v] [] F (fun _ : Nat => True) (fun r => .pointer (some ⟨r, 0, none⟩)) (fun r => [rdO 157 r B ⟨0, 0⟩]) := by
  intro ω w hh
  refine enter Try.func75 rfl Try.ntmps75 rfl hh ?_
  simp only [List.nil_append, argsB]
  refine sr ?_
  refine rr (rd_assign rfl) ?_
  refine nx ?_
  refine sr ?_
  refine rr (rd_move rfl) ?_
  refine rc (hs := cloneB_spec _ v B (by first | with_reducible exact vwb_nil _ | exact Vw.sep hF (by repeat (first | with_reducible exact Sel.head | apply Sel.tail)) | exact Vw.sep hG (by repeat (first | with_reducible exact Sel.head | apply Sel.tail)) | exact Vw.sep vw_bytes (by repeat (first | with_reducible exact Sel.head | apply Sel.tail))) hl) (k := ?_)
  rintro v1 -
  refine St.vw vw_bytes .head (fun A c hv _ _ _ => ?_)
  subst hv
  try simp only [List.cons_append, List.nil_append]
  refine rr (rd_bd [_, _, _] zero157 plc157) ?_
  refine r_bx fun b6 => ?_
  refine rr (rd_assign rfl) ?_
  refine run_nil ?_
  refine St.kp [(2, _)] ?_
  refine St.then_n ?_
  refine do_ret ?_
  refine do_ret1 Try.results75 (res_tmp rfl) ?_
  intro w hw
  have h9 : Holds ω [pts b6 157 [.slice A B.length c, .int .i64 0, .int .i64 0], bytesO (.slice A B.length c) B, F] w := hw.sub (by repeat (first | exact Pick.nil | apply Pick.cons (by repeat (first | with_reducible exact Sel.head | apply Sel.tail))))
  exact ⟨b6, trivial, rfl, Holds.rd_shut (A := A) (cap := c) ⟨0, 0⟩ (.cons .head (.cons .head .nil)) h9⟩
/-- What is left of the bytes. -/
theorem left_spec (F : HP) (A : Option Addr) (cap : Nat) (hs : s.at_ ≤ B.length) : Spec Try.prog 92 [.pointer (some ⟨r, 0, none⟩)] [pts r 157 [.slice A B.length cap, .int .i64 s.at_, .int .i64 s.why], bytesO (.slice A B.length cap) B] F (fun _ : Unit => True) (fun _ => .slice (subA A cap s.at_ 1) (B.length - s.at_) (cap - s.at_))
    (fun _ => [pts r 157 [.slice A B.length cap, .int .i64 s.at_, .int .i64 s.why], bytesO (.slice A B.length cap) B]) := by
  intro ω w hh
  refine enter Try.func92 rfl Try.ntmps92 rfl hh ?_
  simp only [List.cons_append, List.nil_append, argsB]
  refine St.vw vw_bytes (.tail .head) (fun A' c' hv h1 h2 _ => ?_)
  cases hv
  refine sr ?_
  refine rr (rd_assign rfl) ?_
  refine nx ?_
  refine do_seq ?_
  refine do_draw [[1, 2, 3, 8, 9], [2, 3, 8, 9], [3, 8, 9], [8, 9], [5, 6, 7, 8, 9], [6, 7, 8, 9], [7, 8, 9], [8, 9], [9], []] (by kernel_rfl) rfl ?_
  refine ta 0 rfl (rd_move rfl) ?_
  refine ta 1 rfl (rd_nilCheck rfl) ?_
  refine ta 2 rfl (rd_fa rfl fld157_0) ?_
  refine ta 3 rfl (rd_ld rfl row44) ?_
  refine ta 4 rfl (rd_move rfl) ?_
  refine ta 5 rfl (rd_nilCheck rfl) ?_
  refine ta 6 rfl (rd_fa rfl fld157_1) ?_
  refine ta 7 rfl (rd_ld rfl row3) ?_
  refine ta 8 rfl (rd_slice (i := s.at_) (j := B.length) Try.underlying44 ei5 rfl rfl rfl (by omega) (by omega) (by omega)) ?_
  refine ta 9 rfl (rd_assign rfl) ?_
  refine any_nil (by kernel_rfl) ?_
  refine St.kp [(2, _)] ?_
  refine St.then_n ?_
  refine do_ret ?_
  refine do_ret1 Try.results92 (res_tmp rfl) ?_
  intro w hw
  exact ⟨(), trivial, rfl, hw.sub (by repeat (first | exact Pick.nil | apply Pick.cons (by repeat (first | with_reducible exact Sel.head | apply Sel.tail))))⟩
theorem vw_left {A : Option Addr} {cap n : Nat} (hn : n ≤ B.length) : VwB (bytesO (.slice A B.length cap) B) (.slice (subA A cap n 1) (B.length - n) (cap - n)) (B.drop n) := by
  have := Vw.sub (F := bytesO (.slice A B.length cap) B) (k := 1) vw_bytes (i := n) (j := B.length) (by decide) hn (Nat.le_refl _)
  unfold VwB
  rw [List.length_drop, List.map_drop]
  rw [List.take_of_length_le (by simp), Nat.mul_one] at this
  exact this
theorem u64_or (a b : Nat) (ha : a < 18446744073709551616) (hb : b < 18446744073709551616) : Value.int .u64 (IntKind.u64.wrap (BitVec.ofInt IntKind.u64.bits (a : Int) ||| BitVec.ofInt IntKind.u64.bits (b : Int)).toNat) = .int .u64 ((a ||| b : Nat) : Int) := by
  have e : (BitVec.ofInt IntKind.u64.bits (a : Int) ||| BitVec.ofInt IntKind.u64.bits (b : Int)).toNat = a ||| b := by
    show (BitVec.ofInt 64 (a : Int) ||| BitVec.ofInt 64 (b : Int)).toNat = _
    rw [BitVec.ofInt_natCast, BitVec.ofInt_natCast, BitVec.toNat_or, BitVec.toNat_ofNat, BitVec.toNat_ofNat, Nat.mod_eq_of_lt ha, Nat.mod_eq_of_lt hb]
  have hor : a ||| b < 2 ^ 64 := Nat.or_lt_two_pow ha hb
  rw [e, IntWalk.u64_in _ (by omega)]
set_option maxRecDepth 10000 in
theorem and127 : ∀ q : Fin 256, (BitVec.ofNat 8 q.val &&& BitVec.ofNat 8 127).toNat = q.val % 128 := by decide
theorem u8_and (c : UInt8) : Value.int .u8 (IntKind.u8.wrap (BitVec.ofInt IntKind.u8.bits (c.toNat : Int) &&& BitVec.ofInt IntKind.u8.bits 127).toNat) = .int .u8 ((c.toNat % 128 : Nat) : Int) := by
  have hc : c.toNat < 256 := c.toNat_lt
  have e : (BitVec.ofInt IntKind.u8.bits (c.toNat : Int) &&& BitVec.ofInt IntKind.u8.bits 127).toNat = c.toNat % 128 := by
    have e1 : BitVec.ofInt IntKind.u8.bits (c.toNat : Int) = BitVec.ofNat 8 c.toNat := BitVec.ofInt_natCast 8 _
    have e2 : BitVec.ofInt IntKind.u8.bits 127 = BitVec.ofNat 8 127 := rfl
    rw [e1, e2]
    exact and127 ⟨c.toNat, hc⟩
  rw [e, IntWalk.u8_in _ (by omega)]
theorem shl_in (q i : Nat) (hq : q < 128) (hi : i ≤ 9) (h9 : i = 9 → q ≤ 1) : Value.int .u64 (IntKind.u64.wrap ((q : Int) * 2 ^ (min ((7 : Int) * i).toNat IntKind.u64.bits))) = .int .u64 ((q * 128 ^ i : Nat) : Int) ∧ q * 128 ^ i < 18446744073709551616 := by
  have hm : min ((7 : Int) * i).toNat IntKind.u64.bits = 7 * i := by
    have : IntKind.u64.bits = 64 := rfl
    omega
  have hp : (2 : Nat) ^ (7 * i) = 128 ^ i := by rw [Nat.pow_mul]
  have hlt : q * 128 ^ i < 18446744073709551616 := by
    rcases Nat.lt_or_ge i 9 with h | h
    · have : 128 ^ i ≤ 128 ^ 8 := Nat.pow_le_pow_right (by omega) (by omega)
      have h8 : (128 : Nat) ^ 8 = 72057594037927936 := by decide
      have : q * 128 ^ i ≤ 127 * 72057594037927936 := Nat.mul_le_mul (by omega) (by omega)
      omega
    · obtain rfl : i = 9 := by omega
      have := h9 rfl
      have h8 : (128 : Nat) ^ 9 = 9223372036854775808 := by decide
      rw [h8]; omega
  refine ⟨?_, hlt⟩
  rw [hm]
  have e : (q : Int) * 2 ^ (7 * i) = ((q * 128 ^ i : Nat) : Int) := by rw [← hp]; push_cast; rfl
  rw [e, IntWalk.u64_in _ (by omega)]
theorem or_add (a q i : Nat) (ha : a < 128 ^ i) : a ||| q * 128 ^ i = a + q * 128 ^ i := by
  have hp : (2 : Nat) ^ (7 * i) = 128 ^ i := by rw [Nat.pow_mul]
  rw [← hp] at ha ⊢
  rw [Nat.or_comm, Nat.mul_comm, ← Nat.two_pow_add_eq_or_of_lt ha, Nat.add_comm]
end
theorem scan_spec (F : HP) (v : Value) (l : List UInt8) (hF : VwB F v l) (hl : l.length ≤ 1099511627776) :
    Spec Try.prog 91 [v] [] F (fun _ : Unit => True) (fun _ => .tuple #[.int .u64 (scanF 0 0 l).1, .int .i64 (scanF 0 0 l).2.1, .int .i64 (scanF 0 0 l).2.2]) (fun _ => []) := by
  intro ω w hh
  refine enter Try.func91 rfl Try.ntmps91 rfl hh ?_
  simp only [List.nil_append, argsB]
  refine St.vw hF .head (fun A cp hv h1 h2 _ => ?_)
  subst hv
  refine sr ?_
  refine rr (rd_assign rfl) ?_
  refine rr (rd_assign rfl) ?_
  refine rr (rd_assign rfl) ?_
  refine nx ?_
  refine do_scope ?_
  refine sr ?_
  refine rr (rd_assign rfl) ?_
  refine rr (rd_assign rfl) ?_
  refine nx ?_
  refine sr ?_
  refine rr (rd_assign rfl) ?_
  refine nx ?_
  refine do_seq ?_
  refine do_label ?_
  refine St.then_n ?_
  refine do_seq ?_
  refine sr ?_
  refine rr (rd_move rfl) ?_
  refine rr (rd_len Try.underlying44 rfl) ?_
  refine rr (rd_move rfl) ?_
  refine run_nil ?_
  refine St.kp [(5, _), (6, _), (7, _), (10, _), (11, _), (12, _)] ?_
  refine St.then_n ?_
  refine do_block ?_
  refine do_loop (fun y : Nat × Nat => y.1 ≤ l.length ∧ y.1 ≤ 10 ∧ (y.1 < l.length → y.1 ≤ 9) ∧ y.2 < 128 ^ y.1 ∧ scanF y.1 y.2 (l.drop y.1) = scanF 0 0 l) (fun y => [(5, .int .u64 y.2), (6, .int .i64 10), (7, .int .i64 0), (10, .slice A l.length cp), (11, .int .i64 l.length), (12, .int .i64 y.1)]) (fun _ => [F]) (fun y => l.length - y.1) (0, 0) ⟨Nat.zero_le _, Nat.zero_le _, fun _ => Nat.zero_le _, by simp, rfl⟩ ⟨rfl, rfl, rfl, rfl, rfl, rfl, trivial⟩ (by repeat (first | exact Pick.nil | apply Pick.cons (by repeat (first | with_reducible exact Sel.head | apply Sel.tail)))) ?_
  rintro ⟨i, acc⟩ ⟨hi, hi10, hi9, ha, hs⟩
  dsimp only at hi hi10 hi9 ha hs ⊢
  refine sr ?_
  refine rr (rd_lt rfl rfl) ?_
  refine nx ?_
  refine do_seq ?_
  first | refine do_condp rfl (fun h13 => ?_) (fun h13 => ?_) | refine do_cond rfl (fun h13 => ?_) (fun h13 => ?_)
  · have hx := List.getElem?_eq_getElem (l := l) (i := i) (by omega)
    have hd := List.drop_eq_getElem_cons (l := l) (i := i) (by omega)
    have hi9 := hi9 (by omega)
    generalize l[i]'_ = c at hx hd
    have hc : c.toNat < 256 := c.toNat_lt
    have hcell : (l.map bcell)[i]? = some (bcell c) := by rw [List.getElem?_map, hx]; rfl
    rw [hd] at hs
    refine St.vw_some hF (by repeat (first | with_reducible exact Sel.head | apply Sel.tail)) (by omega) (fun g of hg _ _ => ?_)
    subst hg
    refine do_skip ?_
    refine St.then_n ?_
    refine do_seq ?_
    refine do_block ?_
    refine sr ?_
    refine rr (rd_move rfl) ?_
    refine rr ((rd_indexAddr Try.underlying44 ei5 rfl rfl (by omega) (by omega)).eq (show _ = Value.pointer (some ⟨g, of + i, none⟩) by simp)) ?_
    refine rr (rd_ld rfl row5 (Vw.cells1 hF (by repeat (first | with_reducible exact Sel.head | apply Sel.tail)) (by omega) hcell)) ?_
    refine rr (rd_assign rfl) ?_
    refine rr (rd_assign rfl) ?_
    refine run_nil ?_
    refine St.kp [(5, _), (6, _), (7, _), (8, _), (9, _), (10, _), (11, _), (12, _)] ?_
    refine St.then_n ?_
    refine do_seq ?_
    refine do_seq ?_
    refine do_cut (fun b : Bool => b = decide (i = 9 ∧ 1 < c.toNat ∨ 0 < i ∧ c.toNat = 0)) (fun b => [(5, .int .u64 acc), (6, .int .i64 10), (7, .int .i64 0), (8, .int .i64 i), (9, .int .u8 c.toNat), (10, .slice (some ⟨g, of, none⟩) l.length cp), (11, .int .i64 l.length), (12, .int .i64 i), (30, .bool b)]) (fun _ => [F]) (fun K hK => ?_) ?_
    · rcases (show (i = 9 ∧ 1 < c.toNat) ∨ (i = 9 ∧ ¬ 1 < c.toNat) ∨ (i ≠ 9 ∧ i = 0) ∨ (i ≠ 9 ∧ 0 < i) by omega) with hA | hA | hA | hA
      · refine do_region ?_
        refine rr (rd_move rfl) ?_
        first | refine rr ((rd_eq rfl rfl).eq (show _ = Value.bool true by simp; omega)) ?_ | refine rr ((rd_eq rfl rfl).eq (show _ = Value.bool false by simp; omega)) ?_
        refine rr (rd_move rfl) ?_
        first | refine sk ?_ | (refine rr (rd_move rfl) ?_)
        first | refine sk ?_ | (first | refine rr ((rd_gt rfl rfl).eq (show _ = Value.bool true by simp; omega)) ?_ | refine rr ((rd_gt rfl rfl).eq (show _ = Value.bool false by simp; omega)) ?_)
        refine rr (rd_pick rfl rfl) ?_
        refine rr (rd_move rfl) ?_
        first | refine sk ?_ | (refine rr (rd_move rfl) ?_)
        first | refine sk ?_ | (first | refine rr ((rd_gt rfl rfl).eq (show _ = Value.bool true by simp; omega)) ?_ | refine rr ((rd_gt rfl rfl).eq (show _ = Value.bool false by simp; omega)) ?_)
        first | refine sk ?_ | (refine rr (rd_move rfl) ?_)
        first | refine sk ?_ | (refine rr (rd_move rfl) ?_)
        first | refine sk ?_ | (refine rr (rd_eq rfl rfl) ?_)
        first | refine sk ?_ | (refine rr (rd_pick rfl rfl) ?_)
        refine rr (rd_pick rfl rfl) ?_
        refine run_nil ?_
        refine St.kp [(5, _), (6, _), (7, _), (8, _), (9, _), (10, _), (11, _), (12, _), (20, _), (21, _), (24, _), (25, _), (26, _), (27, _), (28, _), (29, _), (30, _)] ?_
        refine St.then_n ?_
        exact St.keep (β' := [(5, _), (6, _), (7, _), (8, _), (9, _), (10, _), (11, _), (12, _), (30, _)]) ⟨rfl, rfl, rfl, rfl, rfl, rfl, rfl, rfl, rfl, trivial⟩ (hK _ (by first | exact (decide_eq_true (by omega)).symm | exact (decide_eq_false (by omega)).symm | exact decide_eq_decide.2 (by omega)))
      · refine do_region ?_
        refine rr (rd_move rfl) ?_
        first | refine rr ((rd_eq rfl rfl).eq (show _ = Value.bool true by simp; omega)) ?_ | refine rr ((rd_eq rfl rfl).eq (show _ = Value.bool false by simp; omega)) ?_
        refine rr (rd_move rfl) ?_
        first | refine sk ?_ | (refine rr (rd_move rfl) ?_)
        first | refine sk ?_ | (first | refine rr ((rd_gt rfl rfl).eq (show _ = Value.bool true by simp; omega)) ?_ | refine rr ((rd_gt rfl rfl).eq (show _ = Value.bool false by simp; omega)) ?_)
        refine rr (rd_pick rfl rfl) ?_
        refine rr (rd_move rfl) ?_
        first | refine sk ?_ | (refine rr (rd_move rfl) ?_)
        first | refine sk ?_ | (first | refine rr ((rd_gt rfl rfl).eq (show _ = Value.bool true by simp; omega)) ?_ | refine rr ((rd_gt rfl rfl).eq (show _ = Value.bool false by simp; omega)) ?_)
        first | refine sk ?_ | (refine rr (rd_move rfl) ?_)
        first | refine sk ?_ | (refine rr (rd_move rfl) ?_)
        first | refine sk ?_ | (refine rr (rd_eq rfl rfl) ?_)
        first | refine sk ?_ | (refine rr (rd_pick rfl rfl) ?_)
        refine rr (rd_pick rfl rfl) ?_
        refine run_nil ?_
        refine St.kp [(5, _), (6, _), (7, _), (8, _), (9, _), (10, _), (11, _), (12, _), (20, _), (21, _), (24, _), (25, _), (26, _), (27, _), (28, _), (29, _), (30, _)] ?_
        refine St.then_n ?_
        exact St.keep (β' := [(5, _), (6, _), (7, _), (8, _), (9, _), (10, _), (11, _), (12, _), (30, _)]) ⟨rfl, rfl, rfl, rfl, rfl, rfl, rfl, rfl, rfl, trivial⟩ (hK _ (by first | exact (decide_eq_true (by omega)).symm | exact (decide_eq_false (by omega)).symm | exact decide_eq_decide.2 (by omega)))
      · refine do_region ?_
        refine rr (rd_move rfl) ?_
        first | refine rr ((rd_eq rfl rfl).eq (show _ = Value.bool true by simp; omega)) ?_ | refine rr ((rd_eq rfl rfl).eq (show _ = Value.bool false by simp; omega)) ?_
        refine rr (rd_move rfl) ?_
        first | refine sk ?_ | (refine rr (rd_move rfl) ?_)
        first | refine sk ?_ | (first | refine rr ((rd_gt rfl rfl).eq (show _ = Value.bool true by simp; omega)) ?_ | refine rr ((rd_gt rfl rfl).eq (show _ = Value.bool false by simp; omega)) ?_)
        refine rr (rd_pick rfl rfl) ?_
        refine rr (rd_move rfl) ?_
        first | refine sk ?_ | (refine rr (rd_move rfl) ?_)
        first | refine sk ?_ | (first | refine rr ((rd_gt rfl rfl).eq (show _ = Value.bool true by simp; omega)) ?_ | refine rr ((rd_gt rfl rfl).eq (show _ = Value.bool false by simp; omega)) ?_)
        first | refine sk ?_ | (refine rr (rd_move rfl) ?_)
        first | refine sk ?_ | (refine rr (rd_move rfl) ?_)
        first | refine sk ?_ | (refine rr (rd_eq rfl rfl) ?_)
        first | refine sk ?_ | (refine rr (rd_pick rfl rfl) ?_)
        refine rr (rd_pick rfl rfl) ?_
        refine run_nil ?_
        refine St.kp [(5, _), (6, _), (7, _), (8, _), (9, _), (10, _), (11, _), (12, _), (20, _), (21, _), (24, _), (25, _), (26, _), (27, _), (28, _), (29, _), (30, _)] ?_
        refine St.then_n ?_
        exact St.keep (β' := [(5, _), (6, _), (7, _), (8, _), (9, _), (10, _), (11, _), (12, _), (30, _)]) ⟨rfl, rfl, rfl, rfl, rfl, rfl, rfl, rfl, rfl, trivial⟩ (hK _ (by first | exact (decide_eq_true (by omega)).symm | exact (decide_eq_false (by omega)).symm | exact decide_eq_decide.2 (by omega)))
      · refine do_region ?_
        refine rr (rd_move rfl) ?_
        first | refine rr ((rd_eq rfl rfl).eq (show _ = Value.bool true by simp; omega)) ?_ | refine rr ((rd_eq rfl rfl).eq (show _ = Value.bool false by simp; omega)) ?_
        refine rr (rd_move rfl) ?_
        first | refine sk ?_ | (refine rr (rd_move rfl) ?_)
        first | refine sk ?_ | (first | refine rr ((rd_gt rfl rfl).eq (show _ = Value.bool true by simp; omega)) ?_ | refine rr ((rd_gt rfl rfl).eq (show _ = Value.bool false by simp; omega)) ?_)
        refine rr (rd_pick rfl rfl) ?_
        refine rr (rd_move rfl) ?_
        first | refine sk ?_ | (refine rr (rd_move rfl) ?_)
        first | refine sk ?_ | (first | refine rr ((rd_gt rfl rfl).eq (show _ = Value.bool true by simp; omega)) ?_ | refine rr ((rd_gt rfl rfl).eq (show _ = Value.bool false by simp; omega)) ?_)
        first | refine sk ?_ | (refine rr (rd_move rfl) ?_)
        first | refine sk ?_ | (refine rr (rd_move rfl) ?_)
        first | refine sk ?_ | (refine rr (rd_eq rfl rfl) ?_)
        first | refine sk ?_ | (refine rr (rd_pick rfl rfl) ?_)
        refine rr (rd_pick rfl rfl) ?_
        refine run_nil ?_
        refine St.kp [(5, _), (6, _), (7, _), (8, _), (9, _), (10, _), (11, _), (12, _), (20, _), (21, _), (24, _), (25, _), (26, _), (27, _), (28, _), (29, _), (30, _)] ?_
        refine St.then_n ?_
        exact St.keep (β' := [(5, _), (6, _), (7, _), (8, _), (9, _), (10, _), (11, _), (12, _), (30, _)]) ⟨rfl, rfl, rfl, rfl, rfl, rfl, rfl, rfl, rfl, trivial⟩ (hK _ (by first | exact (decide_eq_true (by omega)).symm | exact (decide_eq_false (by omega)).symm | exact decide_eq_decide.2 (by omega)))
    rintro b hb
    first | refine do_condp rfl (fun h30 => ?_) (fun h30 => ?_) | refine do_cond rfl (fun h30 => ?_) (fun h30 => ?_)
    · have hf := of_decide_eq_true (hb.symm.trans h30)
      rw [scanF_cons, if_pos hf] at hs
      refine sr ?_
      refine rr (rd_assign rfl) ?_
      refine run_nil ?_
      refine St.kp [(5, _), (6, _), (7, _)] ?_
      refine St.then_n ?_
      refine do_exit ?_
      refine St.then_x ?_
      refine St.blk_o rfl ?_
      refine St.then_x ?_
      refine St.then_x ?_
      refine St.blk_s ?_
      refine St.then_n ?_
      refine sr ?_
      refine rr (rd_move rfl) ?_
      refine rr (rd_move rfl) ?_
      refine rr (rd_move rfl) ?_
      refine rr (rd_assign rfl) ?_
      refine rr (rd_assign rfl) ?_
      refine rr (rd_assign rfl) ?_
      refine run_nil ?_
      refine St.kp [(2, _), (3, _), (4, _)] ?_
      refine St.then_n ?_
      refine do_ret ?_
      refine St.sc_r ?_
      refine do_ret3 Try.results91 (res_tmp rfl) (res_tmp rfl) (res_tmp rfl) ?_
      intro w hw
      exact ⟨(), trivial, by rw [← hs]; rfl, hw⟩
    · have hf := of_decide_eq_false (hb.symm.trans h30)
      rw [scanF_cons, if_neg hf] at hs
      have hq : c.toNat % 128 < 128 := Nat.mod_lt _ (by omega)
      obtain ⟨sh1, sh2⟩ := shl_in (c.toNat % 128) i hq hi9 (by intro h; omega)
      have hacc : acc < 18446744073709551616 := by
        have : 128 ^ i ≤ 128 ^ 9 := Nat.pow_le_pow_right (by omega) hi9
        have h8 : (128 : Nat) ^ 9 = 9223372036854775808 := by decide
        omega
      have hor := or_add acc (c.toNat % 128) i ha
      refine do_skip ?_
      refine St.then_n ?_
      refine sr ?_
      refine rr (rd_move rfl) ?_
      refine rr (rd_move rfl) ?_
      refine rr ((rd_and rfl rfl).eq (u8_and c)) ?_
      refine rr ((rd_conv Try.underlying5 Try.underlying120 rfl).eq (show _ = Value.int .u64 ((c.toNat % 128 : Nat) : Int) from congrArg _ (IntWalk.u64_in _ (by omega)))) ?_
      refine rr (rd_move rfl) ?_
      refine rr (rd_muli rfl rfl) ?_
      refine rr ((rd_shl (by omega) rfl rfl).eq sh1) ?_
      refine rr ((rd_or rfl rfl).eq ((u64_or acc _ hacc sh2).trans (show _ = Value.int .u64 ((acc + c.toNat % 128 * 128 ^ i : Nat) : Int) by rw [hor]))) ?_
      refine rr (rd_assign rfl) ?_
      refine run_nil ?_
      refine St.kp [(5, _), (6, _), (7, _), (8, _), (9, _), (10, _), (11, _), (12, _)] ?_
      refine St.then_n ?_
      refine sr ?_
      refine rr (rd_move rfl) ?_
      refine rr (rd_lt rfl rfl) ?_
      refine nx ?_
      first | refine do_condp rfl (fun h40 => ?_) (fun h40 => ?_) | refine do_cond rfl (fun h40 => ?_) (fun h40 => ?_)
      · rw [if_pos (by omega)] at hs
        refine sr ?_
        refine rr (rd_move rfl) ?_
        refine rr (rd_addi rfl rfl) ?_
        refine rr (rd_assign rfl) ?_
        refine rr (rd_assign rfl) ?_
        refine run_nil ?_
        refine St.kp [(5, _), (6, _), (7, _)] ?_
        refine St.then_n ?_
        refine do_exit ?_
        refine St.blk_o rfl ?_
        refine St.then_x ?_
        refine St.then_x ?_
        refine St.blk_s ?_
        refine St.then_n ?_
        refine sr ?_
        refine rr (rd_move rfl) ?_
        refine rr (rd_move rfl) ?_
        refine rr (rd_move rfl) ?_
        refine rr (rd_assign rfl) ?_
        refine rr (rd_assign rfl) ?_
        refine rr (rd_assign rfl) ?_
        refine run_nil ?_
        refine St.kp [(2, _), (3, _), (4, _)] ?_
        refine St.then_n ?_
        refine do_ret ?_
        refine St.sc_r ?_
        refine do_ret3 Try.results91 (res_tmp rfl) (res_tmp rfl) (res_tmp rfl) ?_
        intro w hw
        exact ⟨(), trivial, by rw [← hs]; rfl, hw⟩
      · rw [if_neg (by omega)] at hs
        refine do_skip ?_
        refine St.blk_n ?_
        refine St.then_n ?_
        refine do_region ?_
        refine rr (rd_addi rfl rfl) ?_
        refine rr (rd_move rfl) ?_
        refine run_nil ?_
        refine St.kp [(5, _), (6, _), (7, _), (10, _), (11, _), (12, _)] ?_
        refine St.then_n ?_
        refine loop_back (i + 1, acc + c.toNat % 128 * 128 ^ i) ⟨by dsimp only; omega, by dsimp only; omega, fun _ => by dsimp only; omega, ?_, hs⟩ (by dsimp only; omega) ⟨rfl, rfl, rfl, rfl, rfl, rfl, trivial⟩ (by repeat (first | exact Pick.nil | apply Pick.cons (by repeat (first | with_reducible exact Sel.head | apply Sel.tail))))
        dsimp only
        have : c.toNat % 128 * 128 ^ i ≤ 127 * 128 ^ i := Nat.mul_le_mul_right _ (by omega)
        rw [Nat.pow_succ]; omega
  · refine do_exit ?_
    refine St.then_x ?_
    refine St.then_x ?_
    refine St.blk_s ?_
    refine St.then_n ?_
    refine sr ?_
    refine rr (rd_move rfl) ?_
    refine rr (rd_move rfl) ?_
    refine rr (rd_move rfl) ?_
    refine rr (rd_assign rfl) ?_
    refine rr (rd_assign rfl) ?_
    refine rr (rd_assign rfl) ?_
    refine run_nil ?_
    refine St.kp [(2, _), (3, _), (4, _)] ?_
    refine St.then_n ?_
    refine do_ret ?_
    refine St.sc_r ?_
    refine do_ret3 Try.results91 (res_tmp rfl) (res_tmp rfl) (res_tmp rfl) ?_
    intro w hw
    obtain rfl : i = l.length := by omega
    rw [List.drop_length] at hs
    exact ⟨(), trivial, by rw [← hs]; rfl, hw⟩
section
variable {r : Nat} {B : List UInt8} {s : RS}
theorem rU_err (h : s.why ≠ 0) : rU B s = (0, s) := if_pos h
theorem rU_bad {n z : Nat} {y : Int} (h : s.why = 0) (he : scanF 0 0 (B.drop s.at_) = (n, z, y)) (hy : y ≠ 0) : rU B s = (0, ⟨s.at_, y⟩) := by
  unfold rU
  rw [if_neg (by simp [h]), he]
  exact if_pos hy
theorem rU_good {n z : Nat} {y : Int} (h : s.why = 0) (he : scanF 0 0 (B.drop s.at_) = (n, z, y)) (hy : y = 0) : rU B s = (n, ⟨s.at_ + z, 0⟩) := by
  unfold rU
  rw [if_neg (by simp [h]), he]
  exact if_neg (by simp [hy])
theorem rdUint_spec (F : HP) (hs : s.at_ ≤ B.length) (hl : B.length ≤ 1099511627776) :
    Spec Try.prog 76 [.pointer (some ⟨r, 0, none⟩)] [rdO 157 r B s] F (fun _ : Unit => True) (fun _ => .int .u64 (rU B s).1) (fun _ => [rdO 157 r B (rU B s).2]) := by
  intro ω w hh
  refine enter Try.func76 rfl Try.ntmps76 rfl hh ?_
  simp only [List.cons_append, List.nil_append, argsB]
  by_cases hy : s.why = 0
  · obtain ⟨⟨n, z, y⟩, he⟩ : ∃ q, scanF 0 0 (B.drop s.at_) = q := ⟨_, rfl⟩
    have hz := scanF_size (B.drop s.at_) 0 0
    rw [he, List.length_drop] at hz
    dsimp only at hz
    refine sr ?_
    refine rr (rd_assign rfl) ?_
    refine nx ?_
    refine do_seq ?_
    refine sr ?_
    refine rr (rd_move rfl) ?_
    refine rc (hs := ok_spec _) (k := ?_)
    rintro ⟨⟩ -
    rw [decide_eq_true hy]
    try simp only [List.cons_append, List.nil_append]
    refine rr (rd_not rfl) ?_
    refine nx ?_
    refine do_cond_f rfl ?_
    refine do_skip ?_
    refine St.then_n ?_
    refine sr ?_
    refine St.sel (P := rdO 157 r B s) (by repeat (first | with_reducible exact Sel.head | apply Sel.tail)) (St.rd_open fun A cap => ?_)
    refine rr (rd_move rfl) ?_
    refine rc (hs := left_spec (s := s) _ A cap hs) (k := ?_)
    rintro ⟨⟩ -
    try simp only [List.cons_append, List.nil_append]
    refine rc (hs := scan_spec _ _ (B.drop s.at_) (Vw.sep (vw_left hs) (by repeat (first | with_reducible exact Sel.head | apply Sel.tail))) (by simp; omega)) (k := ?_)
    rintro ⟨⟩ -
    rw [he]
    dsimp only
    try simp only [List.cons_append, List.nil_append]
    refine rr (rd_move rfl) ?_
    refine rr (rd_extract rfl rfl) ?_
    refine rr (rd_extract rfl rfl) ?_
    refine rr (rd_extract rfl rfl) ?_
    refine rr (rd_assign rfl) ?_
    refine rr (rd_assign rfl) ?_
    refine rr (rd_assign rfl) ?_
    refine run_nil ?_
    refine St.kp [(0, _), (3, _), (4, _), (5, _)] ?_
    refine St.then_n ?_
    refine do_seq ?_
    refine sr ?_
    refine rr (rd_move rfl) ?_
    refine rr (rd_move rfl) ?_
    refine rr (rd_nilCheck rfl) ?_
    refine rr (rd_fa rfl fld157_2) ?_
    refine r_st row30 ?_
    refine run_nil ?_
    refine St.kp [(0, _), (3, _), (4, _), (5, _)] ?_
    refine St.then_n ?_
    refine sr ?_
    refine rr (rd_move rfl) ?_
    refine rr (rd_ne rfl rfl) ?_
    refine nx ?_
    first | refine do_condp rfl (fun h21 => ?_) (fun h21 => ?_) | refine do_cond rfl (fun h21 => ?_) (fun h21 => ?_)
    · refine sr ?_
      refine rr (rd_assign rfl) ?_
      refine run_nil ?_
      refine St.kp [(2, _)] ?_
      refine St.then_n ?_
      refine do_ret ?_
      refine St.then_r ?_
      refine do_ret1 Try.results76 (res_tmp rfl) ?_
      intro w hw
      rw [rU_bad hy he h21]
      exact ⟨(), trivial, rfl, Holds.rd_shut (A := A) (cap := cap) ⟨s.at_, y⟩ (by repeat (first | exact Pick.nil | apply Pick.cons (by repeat (first | with_reducible exact Sel.head | apply Sel.tail)))) hw⟩
    · refine do_skip ?_
      refine St.then_n ?_
      refine sr ?_
      refine rr (rd_move rfl) ?_
      refine rr (rd_nilCheck rfl) ?_
      refine rr (rd_fa rfl fld157_1) ?_
      refine rr (rd_ld rfl row3) ?_
      refine rr (rd_move rfl) ?_
      refine rr (rd_addi rfl rfl) ?_
      refine rr (rd_nilCheck rfl) ?_
      refine rr (rd_fa rfl fld157_1) ?_
      refine r_st row3 ?_
      refine run_nil ?_
      refine St.kp [(3, _)] ?_
      refine St.then_n ?_
      refine sr ?_
      refine rr (rd_move rfl) ?_
      refine rr (rd_assign rfl) ?_
      refine nx ?_
      refine do_ret ?_
      refine do_ret1 Try.results76 (res_tmp rfl) ?_
      intro w hw
      have hy0 : y = 0 := by omega
      rw [rU_good hy he hy0]
      subst hy0
      exact ⟨(), trivial, rfl, Holds.rd_shut (A := A) (cap := cap) ⟨s.at_ + z, 0⟩ (.cons .head (.cons (by repeat (first | with_reducible exact Sel.head | apply Sel.tail)) .nil)) hw⟩
  · rw [rU_err hy]
    refine sr ?_
    refine rr (rd_assign rfl) ?_
    refine nx ?_
    refine do_seq ?_
    refine sr ?_
    refine rr (rd_move rfl) ?_
    refine rc (hs := ok_spec _) (k := ?_)
    rintro ⟨⟩ -
    rw [decide_eq_false hy]
    try simp only [List.cons_append, List.nil_append]
    refine rr (rd_not rfl) ?_
    refine nx ?_
    refine do_cond_t rfl ?_
    refine sr ?_
    refine rr (rd_assign rfl) ?_
    refine run_nil ?_
    refine St.kp [(2, _)] ?_
    refine St.then_n ?_
    refine do_ret ?_
    refine St.then_r ?_
    refine do_ret1 Try.results76 (res_tmp rfl) ?_
    intro w hw
    exact ⟨(), trivial, rfl, hw⟩
end
section
variable {r : Nat} {B : List UInt8} {s : RS}
theorem scanF_lt : ∀ (l : List UInt8) (i acc n z : Nat), i ≤ 9 → acc < 128 ^ i → scanF i acc l = (n, z, 0) → n < 18446744073709551616
  | [], i, acc, n, z, _, _, h => by simp [scanF] at h
  | c :: l, i, acc, n, z, hi, ha, h => by
    rw [scanF_cons] at h
    split at h
    · simp at h
    · rename_i hf
      split at h
      · rename_i h128
        obtain ⟨_, hlt⟩ := shl_in (c.toNat % 128) i (Nat.mod_lt _ (by omega)) hi (by intro h; omega)
        simp only [Prod.mk.injEq] at h
        obtain ⟨rfl, _, _⟩ := h
        have h9 : 128 ^ i ≤ 128 ^ 9 := Nat.pow_le_pow_right (by omega) hi
        have h8 : (128 : Nat) ^ 9 = 9223372036854775808 := by decide
        rcases Nat.lt_or_ge i 9 with h10 | h10
        · have h11 : 128 ^ i ≤ 128 ^ 8 := Nat.pow_le_pow_right (by omega) (by omega)
          have h12 : (128 : Nat) ^ 8 = 72057594037927936 := by decide
          have : c.toNat % 128 * 128 ^ i ≤ 127 * 72057594037927936 := Nat.mul_le_mul (by omega) (by omega)
          omega
        · obtain rfl : i = 9 := by omega
          have : c.toNat % 128 * 128 ^ 9 ≤ 1 * 128 ^ 9 := Nat.mul_le_mul_right _ (by omega)
          omega
      · refine scanF_lt l (i + 1) _ n z ?_ ?_ h
        · omega
        · have : c.toNat % 128 * 128 ^ i ≤ 127 * 128 ^ i := Nat.mul_le_mul_right _ (by omega)
          rw [Nat.pow_succ]; omega
theorem rU_lt (B : List UInt8) (s : RS) : (rU B s).1 < 18446744073709551616 := by
  by_cases hy : s.why = 0
  · obtain ⟨⟨n, z, y⟩, he⟩ : ∃ q, scanF 0 0 (B.drop s.at_) = q := ⟨_, rfl⟩
    by_cases h : y = 0
    · rw [rU_good hy he h]
      subst h
      exact scanF_lt _ 0 0 n z (by omega) (by simp) he
    · rw [rU_bad hy he h]; simp
  · rw [rU_err hy]; simp
theorem rU_ok (hs : s.at_ ≤ B.length) : (rU B s).2.at_ ≤ B.length := by
  by_cases hy : s.why = 0
  · obtain ⟨⟨n, z, y⟩, he⟩ : ∃ q, scanF 0 0 (B.drop s.at_) = q := ⟨_, rfl⟩
    have hz := scanF_size (B.drop s.at_) 0 0
    rw [he, List.length_drop] at hz
    dsimp only at hz
    by_cases h : y = 0
    · rw [rU_good hy he h]; dsimp only; omega
    · rw [rU_bad hy he h]; exact hs
  · rw [rU_err hy]; exact hs
end
theorem vw_sub0 {F : HP} {A : Option Addr} {m c n : Nat} {bs : List UInt8} (h : VwB F (.slice A m c) bs) (hn : n ≤ bs.length) : VwB F (.slice (subA A c (Int.toNat 0) 1) ((n : Int).toNat - Int.toNat 0) (c - Int.toNat 0)) (bs.take n) := fun p hp => by
  have hm : m = bs.length := by
    obtain ⟨A', c', e, _⟩ := h p hp
    cases e; rfl
  subst hm
  have := (Vw.sub (F := F) (k := 1) h (i := 0) (j := n) (by decide) (Nat.zero_le _) hn) p hp
  rw [List.length_take, Nat.min_eq_left hn, List.map_take]
  simpa using this
section
variable {r : Nat} {B : List UInt8} {s : RS}
theorem rN_err {most : Nat} (h : s.why ≠ 0) : rN most B s = (0, s) := if_pos h
theorem rN_bad {most : Nat} (h : s.why = 0) (h1 : (rU B s).2.why ≠ 0) : rN most B s = (0, ⟨s.at_, (rU B s).2.why⟩) := by
  unfold rN; rw [if_neg (by simp [h]), if_pos h1]
theorem rN_big {most : Nat} (h : s.why = 0) (h1 : (rU B s).2.why = 0) (h2 : most < (rU B s).1) : rN most B s = (0, ⟨s.at_, 3⟩) := by
  unfold rN; rw [if_neg (by simp [h]), if_neg (by simp [h1]), if_pos h2]
theorem rN_short {most : Nat} (h : s.why = 0) (h1 : (rU B s).2.why = 0) (h2 : ¬ most < (rU B s).1) (h3 : B.length - (rU B s).2.at_ < (rU B s).1) : rN most B s = (0, ⟨s.at_, 10⟩) := by
  unfold rN; rw [if_neg (by simp [h]), if_neg (by simp [h1]), if_neg h2, if_pos h3]
theorem rN_good {most : Nat} (h : s.why = 0) (h1 : (rU B s).2.why = 0) (h2 : ¬ most < (rU B s).1) (h3 : ¬ B.length - (rU B s).2.at_ < (rU B s).1) : rN most B s = rU B s := by
  unfold rN; rw [if_neg (by simp [h]), if_neg (by simp [h1]), if_neg h2, if_neg h3]
theorem sized_spec (F : HP) (most : Nat) (hm : most ≤ 9223372036854775807) (hs : s.at_ ≤ B.length) (hl : B.length ≤ 1099511627776) :
    Spec Try.prog 93 [.pointer (some ⟨r, 0, none⟩), .int .i64 most] [rdO 157 r B s] F (fun _ : Unit => True) (fun _ => .int .i64 (rN most B s).1) (fun _ => [rdO 157 r B (rN most B s).2]) := by
  intro ω w hh
  refine enter Try.func93 rfl Try.ntmps93 rfl hh ?_
  simp only [List.cons_append, List.nil_append, argsB]
  by_cases hy : s.why = 0
  · have hlt := rU_lt B s
    have hok := rU_ok hs
    have kb := @rN_bad B s most hy
    have kg := @rN_big B s most hy
    have ks := @rN_short B s most hy
    have ko := @rN_good B s most hy
    obtain ⟨⟨n, s1⟩, hr⟩ : ∃ q, rU B s = q := ⟨_, rfl⟩
    rw [hr] at hlt hok kb kg ks ko
    dsimp only at hlt hok kb kg ks ko
    refine sr ?_
    refine rr (rd_assign rfl) ?_
    refine nx ?_
    refine do_seq ?_
    refine sr ?_
    refine rr (rd_move rfl) ?_
    refine rc (hs := ok_spec _) (k := ?_)
    rintro ⟨⟩ -
    rw [decide_eq_true hy]
    try simp only [List.cons_append, List.nil_append]
    refine rr (rd_not rfl) ?_
    refine nx ?_
    refine do_cond_f rfl ?_
    refine do_skip ?_
    refine St.then_n ?_
    refine sr ?_
    refine St.sel (P := rdO 157 r B s) (by repeat (first | with_reducible exact Sel.head | apply Sel.tail)) (St.rd_open fun A cap => ?_)
    refine rr (rd_move rfl) ?_
    refine rr (rd_nilCheck rfl) ?_
    refine rr (rd_fa rfl fld157_1) ?_
    refine rr (rd_ld rfl row3) ?_
    refine rr (rd_assign rfl) ?_
    refine run_nil ?_
    refine St.kp [(0, _), (1, _), (5, _)] ?_
    refine St.then_n ?_
    refine sr ?_
    refine St.rd_shut (A := A) (cap := cap) s (by repeat (first | exact Pick.nil | apply Pick.cons (by repeat (first | with_reducible exact Sel.head | apply Sel.tail)))) ?_
    refine rr (rd_move rfl) ?_
    refine rc (hs := rdUint_spec _ hs hl) (k := ?_)
    rintro ⟨⟩ -
    rw [hr]
    dsimp only
    try simp only [List.cons_append, List.nil_append]
    refine rr (rd_assign rfl) ?_
    refine nx ?_
    refine do_seq ?_
    refine do_block ?_
    refine sr ?_
    refine St.sel (P := rdO 157 r B s1) (by repeat (first | with_reducible exact Sel.head | apply Sel.tail)) (St.rd_open fun A cap => ?_)
    refine rr (rd_move rfl) ?_
    refine rr (rd_nilCheck rfl) ?_
    refine rr (rd_fa rfl fld157_2) ?_
    refine rr (rd_ld rfl row30) ?_
    refine rr (rd_ne rfl rfl) ?_
    refine rr (rd_assign rfl) ?_
    refine run_nil ?_
    refine St.kp [(0, _), (1, _), (5, _), (6, _), (18, _)] ?_
    refine St.then_n ?_
    first | refine do_condp rfl (fun h18 => ?_) (fun h18 => ?_) | refine do_cond rfl (fun h18 => ?_) (fun h18 => ?_)
    · refine do_skip ?_
      refine St.blk_n ?_
      refine St.then_n ?_
      refine sr ?_
      refine rr (rd_move rfl) ?_
      refine rr (rd_move rfl) ?_
      refine rr (rd_nilCheck rfl) ?_
      refine rr (rd_fa rfl fld157_1) ?_
      refine r_st row3 ?_
      refine run_nil ?_
      refine St.kp [] ?_
      refine St.then_n ?_
      refine sr ?_
      refine rr (rd_assign rfl) ?_
      refine nx ?_
      refine do_ret ?_
      refine do_ret1 Try.results93 (res_tmp rfl) ?_
      intro w hw
      rw [kb h18]
      exact ⟨(), trivial, rfl, Holds.rd_shut (A := A) (cap := cap) ⟨s.at_, s1.why⟩ (by repeat (first | exact Pick.nil | apply Pick.cons (by repeat (first | with_reducible exact Sel.head | apply Sel.tail)))) hw⟩
    · refine sr ?_
      refine rr (rd_move rfl) ?_
      refine rr ((rd_lt rfl rfl).eq (show _ = Value.bool false by simp)) ?_
      refine rr (rd_move rfl) ?_
      first | refine sk ?_ | (refine rr (rd_move rfl) ?_)
      first | refine sk ?_ | (refine rr (rd_move rfl) ?_)
      first | refine sk ?_ | (refine rr ((rd_conv Try.underlying3 Try.underlying120 rfl).eq (show _ = Value.int .u64 (most : Int) from congrArg _ (IntWalk.u64_in _ (by omega)))) ?_)
      first | refine sk ?_ | (refine rr (rd_gt rfl rfl) ?_)
      refine rr (rd_pick rfl rfl) ?_
      refine rr (rd_assign rfl) ?_
      refine run_nil ?_
      refine St.kp [(0, _), (5, _), (6, _), (24, _)] ?_
      refine St.then_n ?_
      first | refine do_condp rfl (fun h24 => ?_) (fun h24 => ?_) | refine do_cond rfl (fun h24 => ?_) (fun h24 => ?_)
      · refine do_region ?_
        refine rr (rd_move rfl) ?_
        refine rr (rd_nilCheck rfl) ?_
        refine rr (rd_fa rfl fld157_2) ?_
        refine r_st row30 ?_
        refine run_nil ?_
        refine St.kp [(0, _), (5, _)] ?_
        refine St.blk_n ?_
        refine St.then_n ?_
        refine sr ?_
        refine rr (rd_move rfl) ?_
        refine rr (rd_move rfl) ?_
        refine rr (rd_nilCheck rfl) ?_
        refine rr (rd_fa rfl fld157_1) ?_
        refine r_st row3 ?_
        refine run_nil ?_
        refine St.kp [] ?_
        refine St.then_n ?_
        refine sr ?_
        refine rr (rd_assign rfl) ?_
        refine nx ?_
        refine do_ret ?_
        refine do_ret1 Try.results93 (res_tmp rfl) ?_
        intro w hw
        rw [kg (by omega) (by omega)]
        exact ⟨(), trivial, rfl, Holds.rd_shut (A := A) (cap := cap) ⟨s.at_, 3⟩ (by repeat (first | exact Pick.nil | apply Pick.cons (by repeat (first | with_reducible exact Sel.head | apply Sel.tail)))) hw⟩
      · refine sr ?_
        refine rr (rd_move rfl) ?_
        refine rr (rd_move rfl) ?_
        refine rc (hs := left_spec (s := s1) _ A cap hok) (k := ?_)
        rintro ⟨⟩ -
        try simp only [List.cons_append, List.nil_append]
        refine rr (rd_len Try.underlying44 rfl) ?_
        refine rr ((rd_conv Try.underlying3 Try.underlying120 rfl).eq (show _ = Value.int .u64 ((B.length - s1.at_ : Nat) : Int) from congrArg _ (IntWalk.u64_in _ (by omega)))) ?_
        refine rr (rd_gt rfl rfl) ?_
        refine rr (rd_assign rfl) ?_
        refine run_nil ?_
        refine St.kp [(0, _), (5, _), (6, _), (36, _)] ?_
        refine St.then_n ?_
        first | refine do_condp rfl (fun h36 => ?_) (fun h36 => ?_) | refine do_cond rfl (fun h36 => ?_) (fun h36 => ?_)
        · refine do_region ?_
          refine rr (rd_move rfl) ?_
          refine rr (rd_nilCheck rfl) ?_
          refine rr (rd_fa rfl fld157_2) ?_
          refine r_st row30 ?_
          refine run_nil ?_
          refine St.kp [(0, _), (5, _)] ?_
          refine St.blk_n ?_
          refine St.then_n ?_
          refine sr ?_
          refine rr (rd_move rfl) ?_
          refine rr (rd_move rfl) ?_
          refine rr (rd_nilCheck rfl) ?_
          refine rr (rd_fa rfl fld157_1) ?_
          refine r_st row3 ?_
          refine run_nil ?_
          refine St.kp [] ?_
          refine St.then_n ?_
          refine sr ?_
          refine rr (rd_assign rfl) ?_
          refine nx ?_
          refine do_ret ?_
          refine do_ret1 Try.results93 (res_tmp rfl) ?_
          intro w hw
          rw [ks (by omega) (by omega) (by omega)]
          exact ⟨(), trivial, rfl, Holds.rd_shut (A := A) (cap := cap) ⟨s.at_, 10⟩ (by repeat (first | exact Pick.nil | apply Pick.cons (by repeat (first | with_reducible exact Sel.head | apply Sel.tail)))) hw⟩
        · refine sr ?_
          refine rr (rd_move rfl) ?_
          refine rr ((rd_conv Try.underlying120 Try.underlying3 rfl).eq (show _ = Value.int .i64 (n : Int) from congrArg _ (IntWalk.i64_in _ (by omega)))) ?_
          refine rr (rd_assign rfl) ?_
          refine run_nil ?_
          refine St.kp [(4, _)] ?_
          refine St.then_n ?_
          refine do_ret ?_
          refine St.blk_r ?_
          refine St.then_r ?_
          refine do_ret1 Try.results93 (res_tmp rfl) ?_
          intro w hw
          rw [ko (by omega) (by omega) (by omega)]
          exact ⟨(), trivial, rfl, Holds.rd_shut (A := A) (cap := cap) s1 (by repeat (first | exact Pick.nil | apply Pick.cons (by repeat (first | with_reducible exact Sel.head | apply Sel.tail)))) hw⟩
  · rw [rN_err hy]
    refine sr ?_
    refine rr (rd_assign rfl) ?_
    refine nx ?_
    refine do_seq ?_
    refine sr ?_
    refine rr (rd_move rfl) ?_
    refine rc (hs := ok_spec _) (k := ?_)
    rintro ⟨⟩ -
    rw [decide_eq_false hy]
    try simp only [List.cons_append, List.nil_append]
    refine rr (rd_not rfl) ?_
    refine nx ?_
    refine do_cond_t rfl ?_
    refine sr ?_
    refine rr (rd_assign rfl) ?_
    refine run_nil ?_
    refine St.kp [(4, _)] ?_
    refine St.then_n ?_
    refine do_ret ?_
    refine St.then_r ?_
    refine do_ret1 Try.results93 (res_tmp rfl) ?_
    intro w hw
    exact ⟨(), trivial, rfl, hw⟩
theorem rN_ok {most : Nat} (hs : s.at_ ≤ B.length) : (rN most B s).2.at_ ≤ B.length ∧ ((rN most B s).2.why = 0 → (rN most B s).2.at_ + (rN most B s).1 ≤ B.length) := by
  by_cases hy : s.why = 0
  · by_cases h1 : (rU B s).2.why = 0
    · by_cases h2 : most < (rU B s).1
      · rw [rN_big hy h1 h2]; exact ⟨hs, fun h => by cases h⟩
      · by_cases h3 : B.length - (rU B s).2.at_ < (rU B s).1
        · rw [rN_short hy h1 h2 h3]; exact ⟨hs, fun h => by cases h⟩
        · rw [rN_good hy h1 h2 h3]
          have := rU_ok hs
          exact ⟨this, fun _ => by omega⟩
    · rw [rN_bad hy h1]; exact ⟨hs, fun h => absurd h h1⟩
  · rw [rN_err hy]; exact ⟨hs, fun h => absurd h hy⟩
theorem rB_err (h : (rN 65536 B s).2.why ≠ 0) : rB B s = ([], (rN 65536 B s).2) := if_pos h
theorem rB_good (h : (rN 65536 B s).2.why = 0) : rB B s = ((B.drop (rN 65536 B s).2.at_).take (rN 65536 B s).1, ⟨(rN 65536 B s).2.at_ + (rN 65536 B s).1, 0⟩) := if_neg (by simp [h])
theorem count_spec' (F : HP) (most : Nat) (hm : most ≤ 9223372036854775807) (hs : s.at_ ≤ B.length) (hl : B.length ≤ 1099511627776) :
    Spec Try.prog 77 [.pointer (some ⟨r, 0, none⟩), .int .i64 most] [rdO 157 r B s] F (fun _ : Unit => True) (fun _ => .int .i64 (rN most B s).1) (fun _ => [rdO 157 r B (rN most B s).2]) := by
  intro ω w hh
  refine enter Try.func77 rfl Try.ntmps77 rfl hh ?_
  simp only [List.cons_append, List.nil_append, argsB]
  refine sr ?_
  refine rr (rd_assign rfl) ?_
  refine nx ?_
  refine sr ?_
  refine rr (rd_move rfl) ?_
  refine rr (rd_move rfl) ?_
  refine rc (hs := sized_spec _ most hm hs hl) (k := ?_)
  rintro ⟨⟩ -
  try simp only [List.cons_append, List.nil_append]
  refine rr (rd_assign rfl) ?_
  refine run_nil ?_
  refine St.kp [(4, _)] ?_
  refine St.then_n ?_
  refine do_ret ?_
  refine do_ret1 Try.results77 (res_tmp rfl) ?_
  intro w hw
  exact ⟨(), trivial, rfl, hw⟩
theorem rdBytes_spec (F : HP) (hs : s.at_ ≤ B.length) (hl : B.length ≤ 1099511627776) :
    Spec Try.prog 79 [.pointer (some ⟨r, 0, none⟩)] [rdO 157 r B s] F (fun _ : Value => True) (fun v => v) (fun v => [bytesO v (rB B s).1, rdO 157 r B (rB B s).2]) := by
  intro ω w hh
  refine enter Try.func79 rfl Try.ntmps79 rfl hh ?_
  simp only [List.cons_append, List.nil_append, argsB]
  obtain ⟨hok, hno⟩ := rN_ok (most := 65536) hs
  have kb := @rB_err B s
  have kg := @rB_good B s
  obtain ⟨⟨n, s1⟩, hr⟩ : ∃ q, rN 65536 B s = q := ⟨_, rfl⟩
  rw [hr] at hok hno kb kg
  dsimp only at hok hno kb kg
  by_cases hy : s1.why = 0
  · have kg' : rB B s = ((B.drop s1.at_).take n, ⟨s1.at_ + n, s1.why⟩) := by rw [kg hy, hy]
    rw [kg']
    have hn := hno hy
    refine sr ?_
    refine rr (rd_assign rfl) ?_
    refine nx ?_
    refine sr ?_
    refine rr (rd_move rfl) ?_
    refine rc (hs := sized_spec _ 65536 (by decide) hs hl) (k := ?_)
    rintro ⟨⟩ -
    rw [hr]
    dsimp only
    try simp only [List.cons_append, List.nil_append]
    refine rr (rd_assign rfl) ?_
    refine nx ?_
    refine do_seq ?_
    refine sr ?_
    refine rr (rd_move rfl) ?_
    refine rc (hs := ok_spec _) (k := ?_)
    rintro ⟨⟩ -
    rw [decide_eq_true hy]
    try simp only [List.cons_append, List.nil_append]
    refine rr (rd_not rfl) ?_
    refine run_nil ?_
    refine St.kp [(0, _), (3, _), (9, _)] ?_
    refine St.then_n ?_
    refine do_cond_f rfl ?_
    refine do_skip ?_
    refine St.then_n ?_
    refine sr ?_
    refine St.sel (P := rdO 157 r B s1) (by repeat (first | with_reducible exact Sel.head | apply Sel.tail)) (St.rd_open fun A cap => ?_)
    refine St.vw vw_bytes (.tail .head) (fun A' c' hv h1 h2 _ => ?_)
    cases hv
    refine rr (rd_move rfl) ?_
    refine rc (hs := left_spec (s := s1) _ A cap hok) (k := ?_)
    rintro ⟨⟩ -
    try simp only [List.cons_append, List.nil_append]
    refine rr (rd_move rfl) ?_
    refine rr (rd_slice (i := 0) (j := n) Try.underlying44 ei5 rfl rfl rfl (by omega) (by omega) (by omega)) ?_
    refine rc (hs := cloneB_spec _ _ ((B.drop s1.at_).take n) (Vw.sep (vw_sub0 (vw_left hok) (by rw [List.length_drop]; omega)) (by repeat (first | with_reducible exact Sel.head | apply Sel.tail))) (by rw [List.length_take, List.length_drop]; omega)) (k := ?_)
    rintro v1 -
    refine St.vw vw_bytes .head (fun A1 c1 hv _ _ _ => ?_)
    subst hv
    try simp only [List.cons_append, List.nil_append]
    refine rr (rd_assign rfl) ?_
    refine run_nil ?_
    refine St.kp [(0, _), (3, _), (4, _)] ?_
    refine St.then_n ?_
    refine sr ?_
    refine rr (rd_move rfl) ?_
    refine rr (rd_nilCheck rfl) ?_
    refine rr (rd_fa rfl fld157_1) ?_
    refine rr (rd_ld rfl row3) ?_
    refine rr (rd_move rfl) ?_
    refine rr (rd_addi rfl rfl) ?_
    refine rr (rd_nilCheck rfl) ?_
    refine rr (rd_fa rfl fld157_1) ?_
    refine r_st row3 ?_
    refine run_nil ?_
    refine St.kp [(4, _)] ?_
    refine St.then_n ?_
    refine sr ?_
    refine rr (rd_move rfl) ?_
    refine rr (rd_assign rfl) ?_
    refine nx ?_
    refine do_ret ?_
    refine do_ret1 Try.results79 (res_tmp rfl) ?_
    intro w hw
    exact ⟨_, trivial, rfl, Holds.swap_ (Holds.rd_shut (A := A) (cap := cap) ⟨s1.at_ + n, s1.why⟩ (.cons .head (.cons (by repeat (first | with_reducible exact Sel.head | apply Sel.tail)) .nil)) hw)⟩
  · rw [kb hy]
    refine sr ?_
    refine rr (rd_assign rfl) ?_
    refine nx ?_
    refine sr ?_
    refine rr (rd_move rfl) ?_
    refine rc (hs := sized_spec _ 65536 (by decide) hs hl) (k := ?_)
    rintro ⟨⟩ -
    rw [hr]
    dsimp only
    try simp only [List.cons_append, List.nil_append]
    refine rr (rd_assign rfl) ?_
    refine nx ?_
    refine do_seq ?_
    refine sr ?_
    refine rr (rd_move rfl) ?_
    refine rc (hs := ok_spec _) (k := ?_)
    rintro ⟨⟩ -
    rw [decide_eq_false hy]
    try simp only [List.cons_append, List.nil_append]
    refine rr (rd_not rfl) ?_
    refine run_nil ?_
    refine St.kp [(0, _), (3, _), (9, _)] ?_
    refine St.then_n ?_
    refine do_cond_t rfl ?_
    refine sr ?_
    refine rr (rd_assign rfl) ?_
    refine nx ?_
    refine do_ret ?_
    refine St.then_r ?_
    refine do_ret1 Try.results79 (res_tmp rfl) ?_
    intro w hw
    exact ⟨_, trivial, rfl, Holds.own_nil hw⟩
theorem rB_ok (hs : s.at_ ≤ B.length) : (rB B s).2.at_ ≤ B.length := by
  obtain ⟨h1, h2⟩ := rN_ok (most := 65536) hs
  by_cases hy : (rN 65536 B s).2.why = 0
  · rw [rB_good hy]; exact h2 hy
  · rw [rB_err hy]; exact h1
theorem rdText_spec (F : HP) (hs : s.at_ ≤ B.length) (hl : B.length ≤ 1099511627776) :
    Spec Try.prog 78 [.pointer (some ⟨r, 0, none⟩)] [rdO 157 r B s] F (fun _ : Unit => True) (fun _ => .string (strOf (rB B s).1)) (fun _ => [rdO 157 r B (rB B s).2]) := by
  intro ω w hh
  refine enter Try.func78 rfl Try.ntmps78 rfl hh ?_
  simp only [List.cons_append, List.nil_append, argsB]
  refine sr ?_
  refine rr (rd_assign rfl) ?_
  refine nx ?_
  refine sr ?_
  refine rr (rd_move rfl) ?_
  refine rc (hs := rdBytes_spec _ hs hl) (k := ?_)
  rintro v1 -
  try simp only [List.cons_append, List.nil_append]
  refine rr (rd_bytes_string Try.underlying44 Try.underlying5 Try.underlying9 rfl vw_bytes .head) ?_
  refine rr (rd_assign rfl) ?_
  refine run_nil ?_
  refine St.kp [(2, _)] ?_
  refine St.then_n ?_
  refine do_ret ?_
  refine do_ret1 Try.results78 (res_tmp rfl) ?_
  intro w hw
  exact ⟨(), trivial, rfl, hw.drop⟩
theorem rdEnd_spec (F : HP) (hs : s.at_ ≤ B.length) (hl : B.length ≤ 1099511627776) :
    Spec Try.prog 80 [.pointer (some ⟨r, 0, none⟩)] [rdO 157 r B s] F (fun _ : Unit => True) (fun _ => .int .i64 (rE B s)) (fun _ => [rdO 157 r B s]) := by
  intro ω w hh
  refine enter Try.func80 rfl Try.ntmps80 rfl hh ?_
  simp only [List.cons_append, List.nil_append, argsB]
  refine St.rd_open fun A cap => ?_
  by_cases hy : s.why = 0
  · have hyy := hy
    refine sr ?_
    refine rr (rd_assign rfl) ?_
    refine nx ?_
    refine do_seq ?_
    refine do_block ?_
    refine sr ?_
    refine rr (rd_move rfl) ?_
    refine rr (rd_ptr_eq_nil Try.underlying144 rfl rfl) ?_
    refine rr (rd_assign rfl) ?_
    refine nx ?_
    refine do_cond_f rfl ?_
    refine sr ?_
    refine rr (rd_move rfl) ?_
    refine rr (rd_nilCheck rfl) ?_
    refine rr (rd_fa rfl fld157_2) ?_
    refine rr (rd_ld rfl row30) ?_
    refine rr ((rd_eq rfl rfl).eq (show _ = Value.bool true by simp [hy])) ?_
    refine rr (rd_move rfl) ?_
    first | refine sk ?_ | (refine rr (rd_move rfl) ?_)
    first
      | refine sk ?_
      | (refine rc (hs := left_spec (s := s) _ A cap hs) (k := ?_)
         rintro ⟨⟩ -
         try simp only [List.cons_append, List.nil_append])
    first | refine sk ?_ | (refine rr (rd_len Try.underlying44 rfl) ?_)
    first | refine sk ?_ | (refine rr (rd_gt rfl rfl) ?_)
    refine rr (rd_pick rfl rfl) ?_
    refine rr (rd_assign rfl) ?_
    refine run_nil ?_
    refine St.kp [(0, _), (6, _)] ?_
    refine St.then_n ?_
    first | refine do_condp rfl (fun h6 => ?_) (fun h6 => ?_) | refine do_cond rfl (fun h6 => ?_) (fun h6 => ?_)
    · refine sr ?_
      refine rr (rd_assign rfl) ?_
      refine nx ?_
      refine do_ret ?_
      refine St.blk_r ?_
      refine St.then_r ?_
      refine do_ret1 Try.results80 (res_tmp rfl) ?_
      intro w hw
      exact ⟨(), trivial, by rw [show rE B s = 11 from if_pos ⟨hy, by omega⟩], Holds.rd_shut (A := A) (cap := cap) s (by repeat (first | exact Pick.nil | apply Pick.cons (by repeat (first | with_reducible exact Sel.head | apply Sel.tail)))) hw⟩
    · refine do_skip ?_
      refine St.blk_n ?_
      refine St.then_n ?_
      refine sr ?_
      refine rr (rd_move rfl) ?_
      refine rr (rd_nilCheck rfl) ?_
      refine rr (rd_fa rfl fld157_2) ?_
      refine rr (rd_ld rfl row30) ?_
      refine rr (rd_assign rfl) ?_
      refine run_nil ?_
      refine St.kp [(2, _)] ?_
      refine St.then_n ?_
      refine do_ret ?_
      refine do_ret1 Try.results80 (res_tmp rfl) ?_
      intro w hw
      exact ⟨(), trivial, by rw [show rE B s = s.why from if_neg (by omega)], Holds.rd_shut (A := A) (cap := cap) s (by repeat (first | exact Pick.nil | apply Pick.cons (by repeat (first | with_reducible exact Sel.head | apply Sel.tail)))) hw⟩
  · have hyy := hy
    refine sr ?_
    refine rr (rd_assign rfl) ?_
    refine nx ?_
    refine do_seq ?_
    refine do_block ?_
    refine sr ?_
    refine rr (rd_move rfl) ?_
    refine rr (rd_ptr_eq_nil Try.underlying144 rfl rfl) ?_
    refine rr (rd_assign rfl) ?_
    refine nx ?_
    refine do_cond_f rfl ?_
    refine sr ?_
    refine rr (rd_move rfl) ?_
    refine rr (rd_nilCheck rfl) ?_
    refine rr (rd_fa rfl fld157_2) ?_
    refine rr (rd_ld rfl row30) ?_
    refine rr ((rd_eq rfl rfl).eq (show _ = Value.bool false by simp [hy])) ?_
    refine rr (rd_move rfl) ?_
    first | refine sk ?_ | (refine rr (rd_move rfl) ?_)
    first
      | refine sk ?_
      | (refine rc (hs := left_spec (s := s) _ A cap hs) (k := ?_)
         rintro ⟨⟩ -
         try simp only [List.cons_append, List.nil_append])
    first | refine sk ?_ | (refine rr (rd_len Try.underlying44 rfl) ?_)
    first | refine sk ?_ | (refine rr (rd_gt rfl rfl) ?_)
    refine rr (rd_pick rfl rfl) ?_
    refine rr (rd_assign rfl) ?_
    refine run_nil ?_
    refine St.kp [(0, _), (6, _)] ?_
    refine St.then_n ?_
    refine do_cond_f rfl ?_
    refine do_skip ?_
    refine St.blk_n ?_
    refine St.then_n ?_
    refine sr ?_
    refine rr (rd_move rfl) ?_
    refine rr (rd_nilCheck rfl) ?_
    refine rr (rd_fa rfl fld157_2) ?_
    refine rr (rd_ld rfl row30) ?_
    refine rr (rd_assign rfl) ?_
    refine run_nil ?_
    refine St.kp [(2, _)] ?_
    refine St.then_n ?_
    refine do_ret ?_
    refine do_ret1 Try.results80 (res_tmp rfl) ?_
    intro w hw
    exact ⟨(), trivial, by rw [show rE B s = s.why from if_neg (fun h => hy h.1)], Holds.rd_shut (A := A) (cap := cap) s (by repeat (first | exact Pick.nil | apply Pick.cons (by repeat (first | with_reducible exact Sel.head | apply Sel.tail)))) hw⟩
end
theorem scanF_uvar (q : Nat) : ∀ (i acc : Nat) (l : List UInt8), i ≤ 9 → q * 128 ^ i < 18446744073709551616 → (i = 0 ∨ 0 < q) → scanF i acc (uvar q ++ l) = (acc + q * 128 ^ i, i + (uvar q).length, 0) := by
  induction q using Nat.strongRecOn with
  | _ q ih =>
    intro i acc l hi hq h0
    by_cases h : q < 128
    · rw [uvar_small h, List.singleton_append, scanF_cons]
      have hn : (UInt8.ofNat q).toNat = q := by simp; omega
      rw [hn, if_neg, if_pos h, Nat.mod_eq_of_lt h]
      · rfl
      · rintro (⟨rfl, h1⟩ | ⟨h1, h2⟩)
        · have h8 : (128 : Nat) ^ 9 = 9223372036854775808 := by decide
          rw [h8] at hq; omega
        · omega
    · rw [uvar_big h, List.cons_append, scanF_cons]
      have hn : (UInt8.ofNat (q % 128 + 128)).toNat = q % 128 + 128 := by simp; omega
      have h9 : i ≤ 8 := by
        rcases Nat.lt_or_ge i 9 with h9 | h9
        · omega
        · obtain rfl : i = 9 := by omega
          have h8 : (128 : Nat) ^ 9 = 9223372036854775808 := by decide
          rw [h8] at hq; omega
      have e1 : (q % 128 + 128) % 128 = q % 128 := by omega
      rw [hn, if_neg (by omega), if_neg (by omega), e1]
      have e2 : q / 128 * 128 ^ (i + 1) = (q / 128 * 128) * 128 ^ i := by rw [Nat.pow_succ]; ac_rfl
      have e3 : q * 128 ^ i = q % 128 * 128 ^ i + q / 128 * 128 ^ (i + 1) := by
        rw [e2, ← Nat.add_mul]
        congr 1; omega
      rw [ih (q / 128) (by omega) (i + 1) _ l (by omega) (by omega) (by right; omega), List.length_cons]
      simp only [Prod.mk.injEq, and_true]
      omega
/-- A reader that stands ahead of these bytes. -/
structure Rd (B : List UInt8) (s : RS) (l : List UInt8) : Prop where
  why : s.why = 0
  drop : B.drop s.at_ = l
section
variable {B u l : List UInt8} {s : RS}
theorem Rd.step (h : Rd B s (u ++ l)) : Rd B ⟨s.at_ + u.length, 0⟩ l := ⟨rfl, by rw [← List.drop_drop, h.drop, List.drop_left]⟩
theorem Rd.len (h : Rd B s l) : B.length - s.at_ = l.length := by rw [← h.drop, List.length_drop]
theorem Rd.uint {n : Nat} (h : Rd B s (uvar n ++ l)) (hn : n < 18446744073709551616) : rU B s = (n, ⟨s.at_ + (uvar n).length, 0⟩) := by
  have he := scanF_uvar n 0 0 l (by omega) (by simpa using hn) (.inl rfl)
  rw [← h.drop] at he
  simp only [Nat.zero_add, Nat.pow_zero, Nat.mul_one] at he
  exact rU_good h.why he rfl
theorem Rd.count {most n : Nat} (h : Rd B s (uvar n ++ l)) (hn : n ≤ most) (hn64 : n < 18446744073709551616) (hl : n ≤ l.length) : ∃ s', rN most B s = (n, s') ∧ Rd B s' l := by
  have hu := h.uint hn64
  have hs := h.step
  have hlen := hs.len
  refine ⟨_, ?_, hs⟩
  rw [rN_good h.why (by rw [hu]) (by rw [hu]; dsimp only; omega) (by rw [hu]; dsimp only at hlen ⊢; omega), hu]
theorem Rd.bytes {t : List UInt8} (h : Rd B s (txt t ++ l)) (ht : t.length ≤ 65536) : ∃ s', rB B s = (t, s') ∧ Rd B s' l := by
  unfold txt at h
  rw [List.append_assoc] at h
  obtain ⟨s1, e1, h1⟩ := h.count (most := 65536) ht (by omega) (by simp)
  refine ⟨_, ?_, h1.step⟩
  rw [rB_good (by rw [e1]; exact h1.why), e1]
  dsimp only
  rw [h1.drop, List.take_left]
theorem Rd.fin (h : Rd B s []) : rE B s = 0 := by
  have := h.len
  simp only [List.length_nil] at this
  unfold rE
  rw [if_neg (by omega)]
  exact h.why
theorem Rd.init (B : List UInt8) : Rd B ⟨0, 0⟩ B := ⟨rfl, rfl⟩
end
end Go.Proofs.Ytgeldfgcicjidaa
