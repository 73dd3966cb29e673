/-
  Numbers as bytes, sealed sectors.
-/
import Derived.Test.YtgeldfgcicjidaaB2
namespace Go.Proofs.Ytgeldfgcicjidaa
open Go.RowKit
set_option linter.unusedSimpArgs false
set_option linter.unusedVariables false

theorem St.emp {ω : Amb} {m : Nat} {ds : List Deferred} {Γ : List HP} {β : List (Nat × Value)} {K : Act → World → Prop} (h : St ω m ds (Sep [] :: Γ) β K) : St ω m ds Γ β K := St.unflat (Γ := []) h
/-- A number's first bytes, the lowest one first. -/
def le : Nat → Nat → List UInt8
  | 0, _ => []
  | k + 1, n => UInt8.ofNat n :: le k (n / 256)
def leV : List UInt8 → Nat
  | [] => 0
  | c :: l => c.toNat + 256 * leV l
theorem le_len : ∀ k n, (le k n).length = k
  | 0, _ => rfl
  | k + 1, n => by simp [le, le_len k]
theorem le_succ : ∀ k n, le (k + 1) n = le k n ++ [UInt8.ofNat (n / 256 ^ k)]
  | 0, n => by simp [le]
  | k + 1, n => by
    show UInt8.ofNat n :: le (k + 1) (n / 256) = (UInt8.ofNat n :: le k (n / 256)) ++ _
    rw [le_succ k, List.cons_append, Nat.div_div_eq_div_mul, Nat.pow_succ, Nat.mul_comm 256]
theorem leV_lt : ∀ bs : List UInt8, leV bs < 256 ^ bs.length
  | [] => by simp [leV]
  | c :: l => by
    have := leV_lt l
    have hc : c.toNat < 256 := c.toNat_lt
    rw [leV, List.length_cons, Nat.pow_succ]; omega
theorem leV_le : ∀ k n, n < 256 ^ k → leV (le k n) = n
  | 0, n, h => by simp at h; simp [le, leV, h]
  | k + 1, n, h => by
    rw [Nat.pow_succ] at h
    rw [le, leV, leV_le k (n / 256) (by omega)]
    simp
    omega
theorem setL_len {cs vs : List Value} {off : Nat} (h : off + vs.length ≤ cs.length) : (setL cs off vs).length = cs.length := by
  simp [setL]; omega
theorem setL_nil (cs : List Value) (off : Nat) : setL cs off [] = cs := by simp [setL]
theorem setL_snoc {cs vs : List Value} {off : Nat} {u : Value} (h : off + vs.length < cs.length) : (setL cs off vs).set (off + vs.length) u = setL cs off (vs ++ [u]) := by
  have h1 : (cs.take off ++ vs).length = off + vs.length := by simp; omega
  unfold setL
  rw [List.set_append_right _ _ (by omega), h1, Nat.sub_self]
  have hd := List.drop_eq_getElem_cons h
  rw [hd, List.set_cons_zero, List.length_append]
  simp [Nat.add_assoc]
theorem put_spec (F : HP) (g off n c v : Nat) (T : TypeId) (cs : List Value) (hn : n ≤ 8) (hv : v < 18446744073709551616) (hc : off + n ≤ cs.length) :
    Spec Try.prog 55 [.slice (some ⟨g, off, none⟩) n c, .int .u64 v] [pts g T cs] F (fun _ : Unit => True) (fun _ => .tuple #[]) (fun _ => [pts g T (setL cs off ((le n v).map bcell))]) := by
  intro ω w hh
  refine enter Try.func55 rfl Try.ntmps55 rfl hh ?_
  simp only [List.cons_append, List.nil_append, argsB]
  refine sr ?_
  refine rr (rd_move rfl) ?_
  refine rr (rd_len Try.underlying44 rfl) ?_
  refine rr (rd_move rfl) ?_
  refine nx ?_
  refine do_block ?_
  refine do_lp (fun i : Nat => i ≤ n) (fun i => [(0, .slice (some ⟨g, off, none⟩) n c), (1, .int .u64 ((v / 256 ^ i : Nat) : Int)), (6, .int .i64 n), (7, .int .i64 i)]) (fun i => [pts g T (setL cs off ((le i v).map bcell)), F]) (fun i => n - i) 0 (Nat.zero_le _) ?_ (hβ := ⟨rfl, by simp; rfl, rfl, rfl, trivial⟩) (hΓ := by simp only [le, List.map_nil, setL_nil]; exact .cons .head (.cons .head .nil))
  intro i hi
  refine sr ?_
  refine rr (rd_lt rfl rfl) ?_
  refine nx ?_
  refine do_seq ?_
  first | refine do_condp rfl (fun h8 => ?_) (fun h8 => ?_) | refine do_cond rfl (fun h8 => ?_) (fun h8 => ?_)
  · have hl : ((le i v).map bcell).length = i := by rw [List.length_map, le_len]
    have hlt : v / 256 ^ i < 18446744073709551616 := Nat.lt_of_le_of_lt (Nat.div_le_self _ _) hv
    have hsl : (setL cs off ((le i v).map bcell)).length = cs.length := setL_len (by omega)
    have hss := setL_snoc (cs := cs) (vs := (le i v).map bcell) (off := off) (u := bcell (UInt8.ofNat (v / 256 ^ i))) (by omega)
    rw [hl] at hss
    refine do_skip ?_
    refine St.then_n ?_
    refine do_seq ?_
    refine do_block ?_
    refine sr ?_
    refine rr (rd_move rfl) ?_
    refine rr (rd_assign rfl) ?_
    refine nx ?_
    refine sr ?_
    refine rr (rd_move rfl) ?_
    refine rr (rd_move rfl) ?_
    refine rr (rd_move rfl) ?_
    refine rr ((rd_conv Try.underlying120 Try.underlying5 rfl).eq (u8_of _)) ?_
    refine rr ((rd_indexAddr Try.underlying44 ei5 rfl rfl (by omega) (by omega)).eq (show _ = Value.pointer (some ⟨g, off + i, none⟩) by simp)) ?_
    refine r_st row5 (cs' := setL cs off ((le (i + 1) v).map bcell)) ?_ (hle := by rw [hsl]; exact Nat.ble_eq_true_of_le (by omega)) (hs := by rw [le_succ, List.map_append]; exact hss)
    refine run_nil ?_
    refine St.kp [(0, _), (1, _), (6, _), (7, _)] ?_
    refine St.then_n ?_
    refine do_region ?_
    refine rr (rd_move rfl) ?_
    refine rr ((rd_shr (by decide) rfl rfl).eq (show _ = Value.int .u64 ((v / 256 ^ (i + 1) : Nat) : Int) by rw [Nat.pow_succ, ← Nat.div_div_eq_div_mul]; congr 1; simp [IntKind.bits]; rw [Int.fdiv_eq_ediv_of_nonneg _ (by omega)])) ?_
    refine rr (rd_assign rfl) ?_
    refine run_nil ?_
    refine St.blk_n ?_
    refine St.then_n ?_
    refine do_region ?_
    refine rr (rd_addi rfl rfl) ?_
    refine rr (rd_move rfl) ?_
    refine nx ?_
    exact loop_bk (i + 1) (by omega) (hμ := by omega)
  · obtain rfl : i = n := by omega
    refine do_exit ?_
    refine St.then_x ?_
    refine St.then_x ?_
    refine St.blk_s ?_
    refine do_end0 Try.results55 ?_
    intro w hw
    exact ⟨(), trivial, rfl, hw.sb⟩
theorem shl_or (x : Nat) (c : UInt8) (hx : x < 72057594037927936) : Value.int .u64 (IntKind.u64.wrap (BitVec.ofInt IntKind.u64.bits (IntKind.u64.wrap ((x : Int) * 2 ^ (min (8 : Int).toNat IntKind.u64.bits))) ||| BitVec.ofInt IntKind.u64.bits (IntKind.u64.wrap c.toNat)).toNat) = .int .u64 ((c.toNat + 256 * x : Nat) : Int) := by
  have hc : c.toNat < 256 := c.toNat_lt
  have e1 : IntKind.u64.wrap ((x : Int) * 2 ^ (min (8 : Int).toNat IntKind.u64.bits)) = ((2 ^ 8 * x : Nat) : Int) := by
    simp [IntKind.wrap, IntKind.bits, IntKind.signed]; omega
  have e2 : IntKind.u64.wrap (c.toNat : Int) = ((c.toNat : Nat) : Int) := IntWalk.u64_in _ (by omega)
  rw [e1, e2, u64_or _ _ (by omega) (by omega), ← Nat.two_pow_add_eq_or_of_lt (by omega)]
  congr 2
  omega
abbrev backX (bs : List UInt8) (i : Nat) (vs : List Value) : Prop := ∃ c, i < bs.length ∧ bs[bs.length - 1 - i]? = some c ∧ vs = [.int .i64 ((bs.length - 1 - i : Nat) : Int), bcell c]
theorem back_iter (b : Nat) (A : Option Addr) (cp : Nat) (bs : List UInt8) (X : HP) (hX : VwB X (.slice A bs.length cp) bs) (F0 : HP) :
    IterS Try.prog 96 [.pointer (some ⟨b, 0, none⟩)] (Sep [pts b 44 [.slice A bs.length cp], X]) (backX bs) (fun _ _ => Sep []) (fun i => i = bs.length) F0 := by
  intro ω l J Jx w hy hh
  refine enter Try.func96 rfl Try.ntmps96 rfl hh ?_
  simp only [argsB]
  refine St.sel (.tail .head) (St.flat ?_)
  simp only [List.cons_append, List.nil_append]
  refine St.vw hX (by repeat (first | with_reducible exact Sel.head | apply Sel.tail)) (fun _ _ hv h1 h2 _ => ?_)
  cases hv
  simp only [maxLen] at h2
  refine sr ?_
  refine rr (rd_ld rfl row44) ?_
  refine rr (rd_len Try.underlying44 rfl) ?_
  refine rr (rd_subi rfl rfl) ?_
  refine rr (rd_assign rfl) ?_
  refine nx ?_
  refine do_block ?_
  refine do_lp (fun i : Nat => i ≤ bs.length) (fun i => [(0, .func (.yield l) #[] #[]), (1, .pointer (some ⟨b, 0, none⟩)), (3, .int .i64 ((bs.length : Int) - 1 - i))]) (fun i => [J i, pts b 44 [.slice A bs.length cp], X, F0]) (fun i => bs.length - i) 0 (Nat.zero_le _) ?_ (hβ := ⟨rfl, rfl, by simp; rfl, trivial⟩)
  intro i hi
  refine do_seq ?_
  refine sr ?_
  refine rr (rd_move rfl) ?_
  refine rr (rd_ge rfl rfl) ?_
  refine nx ?_
  first | refine do_condp rfl (fun h8 => ?_) (fun h8 => ?_) | refine do_cond rfl (fun h8 => ?_) (fun h8 => ?_)
  · have hx := List.getElem?_eq_getElem (l := bs) (i := bs.length - 1 - i) (by omega)
    generalize bs[bs.length - 1 - i]'_ = x at hx
    have hcell : (bs.map bcell)[bs.length - 1 - i]? = some (bcell x) := by rw [List.getElem?_map, hx]; rfl
    refine St.vw_some hX (by repeat (first | with_reducible exact Sel.head | apply Sel.tail)) (by omega) (fun g of hg _ _ => ?_)
    subst hg
    have hi1 : (bs.length : Int) - 1 - i = ((bs.length - 1 - i : Nat) : Int) := by omega
    rw [hi1]
    refine do_skip ?_
    refine St.then_n ?_
    refine do_seq ?_
    refine do_block ?_
    refine sr ?_
    refine rr (rd_move rfl) ?_
    refine rr (rd_move rfl) ?_
    refine rr (rd_ld rfl row44) ?_
    refine rr (rd_move rfl) ?_
    refine rr ((rd_indexAddr Try.underlying44 ei5 rfl rfl (by omega) (by omega)).eq (show _ = Value.pointer (some ⟨g, of + (bs.length - 1 - i), none⟩) by simp)) ?_
    refine rr (rd_ld rfl row5 (Vw.cells1 hX (by repeat (first | with_reducible exact Sel.head | apply Sel.tail)) (by omega) hcell)) ?_
    refine St.pack (Ps := [pts b 44 [.slice (some ⟨g, of, none⟩) bs.length cp], X]) (by repeat (first | exact Pick.nil | apply Pick.cons (by repeat (first | with_reducible exact Sel.head | apply Sel.tail)))) ?_
    refine St.emp ?_
    refine run_yieldB rfl (by decide) rfl rfl hy i ⟨x, by omega, hx, rfl⟩ (.cons (.tail (.tail .head)) (.cons .head (.cons .head .nil))) (fun q => ?_)
    refine rr (rd_not rfl) ?_
    refine run_nil ?_
    refine St.kp [(0, _), (1, _), (3, _), (18, _)] ?_
    refine St.then_n ?_
    first | refine do_condp rfl (fun h18 => ?_) (fun h18 => ?_) | refine do_cond rfl (fun h18 => ?_) (fun h18 => ?_)
    · obtain rfl : q = false := by simpa using h18
      simp only [yP]
      refine do_ret ?_
      refine St.blk_r ?_
      refine St.then_r ?_
      refine St.then_r ?_
      refine St.blk_r ?_
      refine do_ret0 Try.results96 ?_
      intro w hw
      exact ⟨⟨_, rfl⟩, .inr hw.sb⟩
    · obtain rfl : q = true := by simpa using h18
      simp only [yP]
      refine St.flat ?_
      simp only [List.cons_append, List.nil_append]
      refine St.sel (.tail .head) (St.flat ?_)
      simp only [List.cons_append, List.nil_append]
      refine do_skip ?_
      refine St.blk_n ?_
      refine St.then_n ?_
      refine do_region ?_
      refine rr (rd_move rfl) ?_
      refine rr (rd_subi rfl rfl) ?_
      refine rr (rd_assign rfl) ?_
      refine nx ?_
      exact loop_bk (i + 1) (by omega) (hμ := by omega) (hβ := ⟨rfl, rfl, congrArg (fun z : Int => some (Value.int .i64 z)) (by omega), trivial⟩)
  · refine do_exit ?_
    refine St.then_x ?_
    refine St.then_x ?_
    refine St.blk_s ?_
    refine do_end0 Try.results96 ?_
    intro w hw
    exact ⟨⟨_, rfl⟩, .inl ⟨i, by omega, ((Holds.flat (Γ := [pts b 44 [.slice A bs.length cp], X]) (Δ := [J i, F0])).2 hw.sb).swap_⟩⟩
theorem backward_spec (F : HP) (v : Value) (h1 : v.oneCell' = true) : Spec Try.prog 85 [v] [] F (fun _ : Nat => True) (fun b => .func (.func 96) #[] #[.pointer (some ⟨b, 0, none⟩)]) (fun b => [pts b 44 [v]]) := by
  intro ω w hh
  refine enter Try.func85 rfl Try.ntmps85 rfl hh ?_
  simp only [List.nil_append, argsB]
  refine sr ?_
  refine r_b1 (fun b1 => ?_) (h1 := h1)
  refine rr (rd_assign rfl) ?_
  refine nx ?_
  refine sr ?_
  refine rr (rd_makeFunc rfl) ?_
  refine rr (rd_assign rfl) ?_
  refine nx ?_
  refine do_ret ?_
  refine do_ret1 Try.results85 (res_tmp rfl) ?_
  intro w hw
  exact ⟨b1, trivial, rfl, hw.sb⟩
/-- Of bytes, at most eight. -/
theorem get_spec (F : HP) (v : Value) (bs : List UInt8) (hF : VwB F v bs) (hl : bs.length ≤ 8) :
    Spec Try.prog 68 [v] [] F (fun _ : Unit => True) (fun _ => .int .u64 (leV bs)) (fun _ => []) := by
  intro ω w hh
  refine enterM Try.func68 rfl Try.ntmps68 rfl hh ?_
  simp only [List.nil_append, argsB]
  refine St.vw hF .head (fun A c hv h1 h2 _ => ?_)
  subst hv
  refine sr ?_
  refine rr (rd_assign rfl) ?_
  refine nx ?_
  refine sr ?_
  refine r_al zero120 fun b3 => ?_
  refine r_st row120 ?_
  refine nx ?_
  refine do_seq ?_
  refine sr ?_
  refine rr (rd_move rfl) ?_
  refine rc (hs := backward_spec _ (.slice A bs.length c) rfl) (k := ?_)
  rintro b -
  try simp only [List.cons_append, List.nil_append]
  refine nx ?_
  refine do_block ?_
  refine St.sel (P := pts b3 120 [.int .u64 0]) (by repeat (first | with_reducible exact Sel.head | apply Sel.tail)) (St.ent (Q := pts b3 120 [.int .u64 ((leV (bs.drop (bs.length - 0)) : Nat) : Int)]) (fun _ h => by simpa [leV] using h) ?_)
  refine St.pack (Ps := [pts b 44 [.slice A bs.length c], F]) (by repeat (first | exact Pick.nil | apply Pick.cons (by repeat (first | with_reducible exact Sel.head | apply Sel.tail)))) ?_
  refine do_range rfl (by kernel_rfl) (fun i => [pts b3 120 [.int .u64 ((leV (bs.drop (bs.length - i)) : Nat) : Int)]]) (fun _ => [fun _ => False])
    (back_iter b A c bs F hF) (by repeat (first | exact Pick.nil | apply Pick.cons (by repeat (first | with_reducible exact Sel.head | apply Sel.tail))))
    (fun i vs (y : UInt8) => i < bs.length ∧ bs[bs.length - 1 - i]? = some y)
    (fun i vs y => [(3, .pointer (some ⟨b3, 0, none⟩)), (5, bcell y)])
    (fun i vs y => [pts b3 120 [.int .u64 ((leV (bs.drop (bs.length - i)) : Nat) : Int)], Sep [pts b 44 [.slice A bs.length c], F]])
    (fun _ _ ⟨_, _, _, h⟩ => by rw [h]; rfl) (by decide) ?_ ?_ (fun Dm1 i hi => ?_) (fun _ _ => St.false (.tail .head))
  · rintro l FR i vs ⟨x1, hi, hx1, rfl⟩ hL1
    simp only [List.cons_append, List.nil_append]
    refine do_region ?_
    refine rr (rd_assign rfl) ?_
    refine run_nil ?_
    refine St.kp [(3, _), (5, _)] ?_
    refine St.then_n ?_
    exact fun a w hw hb => ⟨x1, ⟨hi, hx1⟩, hw.sub (by repeat (first | exact Pick.nil | apply Pick.cons (by repeat (first | with_reducible exact Sel.head | apply Sel.tail)))), hb.sub ⟨rfl, rfl, trivial⟩⟩
  · rintro l FR i vs x1 - ⟨hi, hx1⟩ hL1
    simp only [List.cons_append, List.nil_append]
    have hd := List.drop_eq_getElem_cons (l := bs) (i := bs.length - 1 - i) (by omega)
    rw [List.getElem?_eq_getElem (by omega)] at hx1
    rw [Option.some.inj hx1, show bs.length - 1 - i + 1 = bs.length - i by omega] at hd
    have hlt := leV_lt (bs.drop (bs.length - i))
    rw [List.length_drop, show bs.length - (bs.length - i) = i by omega] at hlt
    have hp : 256 ^ i ≤ 256 ^ 7 := Nat.pow_le_pow_right (by omega) (by omega)
    have h7 : (256 : Nat) ^ 7 = 72057594037927936 := by decide
    have hso := shl_or (leV (bs.drop (bs.length - i))) x1 (by omega)
    refine do_block ?_
    refine do_region ?_
    refine rr (rd_ld rfl row120) ?_
    refine rr (rd_shl (by decide) rfl rfl) ?_
    refine rr (rd_move rfl) ?_
    refine rr (rd_conv (kk := .u8) (i := x1.toNat) Try.underlying5 Try.underlying120 rfl) ?_
    refine rr ((rd_or rfl rfl).eq (hso.trans (show _ = Value.int .u64 ((leV (bs.drop (bs.length - (i + 1))) : Nat) : Int) by rw [show bs.length - (i + 1) = bs.length - 1 - i by omega, hd, leV]))) ?_
    refine r_st row120 ?_
    refine run_nil ?_
    refine St.kp [] ?_
    refine St.blk_n ?_
    exact fun a w hw _ => (show Holds ω [pts b3 120 [.int .u64 ((leV (bs.drop (bs.length - (i + 1))) : Nat) : Int)], Sep [pts b 44 [.slice A bs.length c], F], FR] w from hw.sb)
  simp only [List.cons_append, List.nil_append]
  subst hi
  rw [Nat.sub_self, List.drop_zero]
  refine St.sl (P := Sep [pts b 44 [.slice A bs.length c], F]) (St.flat ?_)
  simp only [List.cons_append, List.nil_append]
  refine St.blk_n ?_
  refine St.then_n ?_
  refine sr ?_
  refine rr (rd_ld rfl row120) ?_
  refine rr (rd_assign rfl) ?_
  refine run_nil ?_
  refine St.kp [(2, _)] ?_
  refine St.then_n ?_
  refine do_ret ?_
  refine do_retM1 [Dm1] rfl (by repeat (first | exact Pick.nil | apply Pick.cons (by repeat (first | with_reducible exact Sel.head | apply Sel.tail)))) Try.results68 (res_tmp rfl) ?_
  intro w hw
  exact ⟨(), trivial, rfl, hw.sb⟩
theorem bcells_all (b : List UInt8) : (b.map bcell).all (·.oneCell') = true := List.all_eq_true.2 fun u hu => by
  obtain ⟨_, _, rfl⟩ := List.mem_map.1 hu; rfl
theorem zeros_b : ∀ n : Nat, (List.replicate n (Value.int .u8 0).cells.toList).flatten = (List.replicate n (0 : UInt8)).map bcell
  | 0 => rfl
  | n + 1 => by rw [List.replicate_succ, List.replicate_succ, List.flatten_cons, zeros_b n]; rfl
/-- Bytes as a page. -/
def pad (b : List UInt8) : List UInt8 := b ++ List.replicate (252 - b.length) 0
theorem pad_len {b : List UInt8} (h : b.length ≤ 252) : (pad b).length = 252 := by simp [pad]; omega
/-- A page as a sector. -/
def sealB (b : List UInt8) : List UInt8 := le 4 (crcF (pad b)).toNat ++ pad b
theorem seal_len {b : List UInt8} (h : b.length ≤ 252) : (sealB b).length = 256 := by simp [sealB, le_len, pad_len h]
def openOk (s : List UInt8) : Bool := decide ((leV (s.take 4) : Int) = crcF (s.drop 4))
theorem seal_ok (b : List UInt8) : openOk (sealB b) = true := by
  have h : 0 ≤ crcF (pad b) ∧ crcF (pad b) < 4294967296 := comF_lt _
  unfold openOk sealB
  rw [List.take_left' (le_len 4 _), List.drop_left' (le_len 4 _), leV_le 4 _ (by omega)]
  exact decide_eq_true (by omega)
theorem seal_drop (b : List UInt8) : (sealB b).drop 4 = pad b := List.drop_left' (le_len 4 _)
theorem pts_bytes {g : Nat} {bs : List UInt8} (h1 : bs.length ≤ maxLen) : ∀ h, pts g 5 (bs.map bcell) h → bytesO (.slice (some ⟨g, 0, none⟩) bs.length bs.length) bs h := fun h hp =>
  pts_own' (tail := []) (Nat.le_refl _) h1 (by simp) (by simp) h (by simpa using hp)
theorem set_zeros {b : List UInt8} (h : b.length ≤ 252) : setL ((List.replicate 256 (0 : UInt8)).map bcell) 4 (b.map bcell) = (List.replicate 4 (0 : UInt8) ++ pad b).map bcell := by
  unfold setL pad
  rw [← List.map_take, ← List.map_drop, List.take_replicate, List.drop_replicate, List.length_map, show min 4 256 = 4 from rfl, show 256 - (4 + b.length) = 252 - b.length by omega, List.map_append, List.map_append, List.append_assoc]
theorem sealed_spec (F : HP) (v : Value) (b : List UInt8) (hF : VwB F v b) (hl : b.length ≤ 252) :
    Spec Try.prog 32 [v] [] F (fun _ : Nat => True) (fun g => .slice (some ⟨g, 0, none⟩) 256 256) (fun g => [bytesO (.slice (some ⟨g, 0, none⟩) 256 256) (sealB b)]) := by
  intro ω w hh
  refine enter Try.func32 rfl Try.ntmps32 rfl hh ?_
  simp only [List.nil_append, argsB]
  refine St.vw hF .head (fun A c hv h1 h2 _ => ?_)
  subst hv
  have hcr : 0 ≤ crcF (pad b) ∧ crcF (pad b) < 4294967296 := comF_lt _
  have hpl := pad_len hl
  obtain ⟨q, hq⟩ := Int.eq_ofNat_of_zero_le hcr.1
  refine sr ?_
  refine rr (rd_assign rfl) ?_
  refine nx ?_
  refine sr ?_
  refine r_mk Try.underlying44 ei5 256 rfl (by decide) (by decide) (fun b4 => ?_)
  rw [zeros_b]
  refine rr (rd_assign rfl) ?_
  refine nx ?_
  refine sr ?_
  refine rr (rd_move rfl) ?_
  refine rr ((rd_slice (i := 4) (j := 256) Try.underlying44 ei5 rfl rfl rfl (by omega) (by omega) (by omega)).eq (show _ = Value.slice (some ⟨b4, 4, none⟩) 252 252 by simp [subA, addr_add])) ?_
  refine rr (rd_move rfl) ?_
  refine r_cp (g := b4) (off := 4) (dl := 252) (cs := (List.replicate 256 (0 : UInt8)).map bcell) (k := 1) b.length (b.map bcell) (cs' := (List.replicate 4 (0 : UInt8) ++ pad b).map bcell) Try.underlying44 ei5 (cp_all hF (by repeat (first | with_reducible exact Sel.head | apply Sel.tail)) hl (by simp)) (by simp) (by rw [List.length_map, List.length_map, List.length_replicate]; omega) (bcells_all b) (set_zeros hl) ?_
  refine run_nil ?_
  refine St.kp [(3, _)] ?_
  refine St.then_n ?_
  refine do_seq ?_
  refine do_draw [[1, 6], [6], [3, 4, 5, 6], [4, 5, 6], [5, 6], [6], []] (by kernel_rfl) rfl ?_
  refine ta 0 rfl (rd_move rfl) ?_
  refine ta 1 rfl ((rd_slice (i := 0) (j := 4) Try.underlying44 ei5 rfl rfl rfl (by omega) (by omega) (by omega)).eq (show _ = Value.slice (some ⟨b4, 0, none⟩) 4 256 by simp [subA, addr_add])) ?_
  refine ta 2 rfl (rd_move rfl) ?_
  refine ta 3 rfl ((rd_slice (i := 4) (j := 256) Try.underlying44 ei5 rfl rfl rfl (by omega) (by omega) (by omega)).eq (show _ = Value.slice (some ⟨b4, 4, none⟩) 252 252 by simp [subA, addr_add])) ?_
  refine tr 4 ?_
  refine rc (hs := sum_spec _ _ (pad b) (Vw.sep (X := pts b4 5 ((List.replicate 4 (0 : UInt8) ++ pad b).map bcell)) (by rw [hpl]; exact vw_pts (by decide) (by decide) (by simp [hpl]) (by simp [hpl]; rw [← hpl, ← List.length_map (f := bcell), List.take_length])) (by repeat (first | with_reducible exact Sel.head | apply Sel.tail)))) (k := ?_)
  rintro ⟨⟩ -
  rw [hq]
  try simp only [List.cons_append, List.nil_append]
  refine nx ?_
  refine any_next (by apply bd 3; apply bd 2; apply bk 1 rfl ((rd_slice (i := 0) (j := 4) Try.underlying44 ei5 rfl rfl rfl (by omega) (by omega) (by omega)).eq (show _ = Value.slice (some ⟨b4, 0, none⟩) 4 256 by simp [subA, addr_add])); apply bk 0 rfl (rd_move rfl); exact .nil) ?_
  refine ta 5 rfl (rd_cvu Try.underlying121 Try.underlying120 rfl) ?_
  refine tr 6 ?_
  refine rc (hs := put_spec _ b4 0 4 256 q _ _ (by decide) (by omega) (by simp [hpl])) (k := ?_)
  rintro ⟨⟩ -
  try simp only [List.cons_append, List.nil_append]
  refine nx ?_
  refine any_next (by apply bd 5; apply bd 1; apply bd 0; exact .nil) ?_
  refine any_nil (by kernel_rfl) ?_
  refine St.kp [(3, _)] ?_
  refine St.then_n ?_
  refine sr ?_
  rw [show setL ((List.replicate 4 (0 : UInt8) ++ pad b).map bcell) 0 ((le 4 q).map bcell) = (sealB b).map bcell by unfold sealB; rw [hq]; simp [setL, le_len]]
  refine rr (rd_move rfl) ?_
  refine rr (rd_assign rfl) ?_
  refine nx ?_
  refine do_ret ?_
  refine do_ret1 Try.results32 (res_tmp rfl) ?_
  intro w hw
  exact ⟨b4, trivial, rfl, Holds.ent (P := pts b4 5 ((sealB b).map bcell)) (fun h hp => by have := pts_bytes (by rw [seal_len hl]; decide) h hp; rwa [seal_len hl] at this) hw.sb⟩
theorem opened_spec (F : HP) (A : Option Addr) (c : Nat) (bs : List UInt8) (hl : bs.length = 256) (hF : VwB F (.slice A 256 c) bs) :
    Spec Try.prog 67 [.slice A 256 c] [] F (fun _ : Unit => True) (fun _ => .tuple #[.slice (subA A c 4 1) 252 (c - 4), .bool (openOk bs)]) (fun _ => []) := by
  intro ω w hh
  refine enter Try.func67 rfl Try.ntmps67 rfl hh ?_
  simp only [List.nil_append, argsB]
  refine St.vw hF .head (fun _ _ hv h1 h2 _ => ?_)
  simp only [Value.slice.injEq] at hv
  obtain ⟨rfl, -, rfl⟩ := hv
  rw [hl] at h1
  have hcr : 0 ≤ crcF (bs.drop 4) ∧ crcF (bs.drop 4) < 4294967296 := comF_lt _
  have h4 : VwB F (.slice (subA A c (Int.toNat 0) 1) (((4 : Nat) : Int).toNat - Int.toNat 0) (c - Int.toNat 0)) (bs.take 4) := vw_sub0 hF (by omega)
  have h5 : VwB F (.slice (subA A c 4 1) 252 (c - 4)) (bs.drop 4) := by
    have hF1 : Vw F (.slice A 256 c) 1 256 (bs.map bcell) := by unfold VwB at hF; rwa [hl] at hF
    have := Vw.sub (k := 1) hF1 (i := 4) (j := 256) (by decide) (by omega) (by omega)
    unfold VwB
    rwa [List.length_drop, hl, List.map_drop, ← List.take_of_length_le (l := (bs.map bcell).drop 4) (i := 252 * 1) (by simp; omega)]
  refine sr ?_
  refine rr (rd_assign rfl) ?_
  refine rr (rd_assign rfl) ?_
  refine nx ?_
  refine do_seq ?_
  refine do_draw [[1, 15, 16], [15, 16], [3, 4, 5, 6, 7, 8, 9, 10, 11, 12, 13, 14, 15, 16], [4, 5, 6, 7, 8, 9, 10, 11, 12, 13, 14, 15, 16], [5, 6, 7, 8, 9, 10, 11, 12, 13, 14, 15, 16], [6, 7, 8, 9, 10, 11, 12, 13, 14, 15, 16], [7, 8, 11, 12, 13, 14, 15, 16], [8, 11, 12, 13, 14, 15, 16], [11, 12, 13, 14, 15, 16], [10, 11, 12, 13, 14, 15, 16], [11, 12, 13, 14, 15, 16], [12, 13, 14, 15, 16], [13, 14, 16], [14, 16], [16], [16], []] (by kernel_rfl) rfl ?_
  refine ta 0 rfl (rd_move rfl) ?_
  refine ta 1 rfl (rd_slice (i := 4) (j := 256) Try.underlying44 ei5 rfl rfl rfl (by omega) (by omega) (by omega)) ?_
  refine ta 2 rfl (rd_move rfl) ?_
  refine ta 3 rfl (rd_len Try.underlying44 rfl) ?_
  refine ta 4 rfl ((rd_eq rfl rfl).eq (show _ = Value.bool true from rfl)) ?_
  refine ta 5 rfl (rd_move rfl) ?_
  first | refine ts 6 ?_ | refine ta 6 rfl (rd_move rfl) ?_
  first | refine ts 7 ?_ | refine ta 7 rfl (rd_slice (i := 0) (j := ((4 : Nat) : Int)) Try.underlying44 ei5 rfl rfl rfl (by omega) (by omega) (by omega)) ?_
  first | refine ts 9 ?_ | refine ta 9 rfl (rd_move rfl) ?_
  first | refine ts 10 ?_ | refine ta 10 rfl (rd_slice (i := 4) (j := 256) Try.underlying44 ei5 rfl rfl rfl (by omega) (by omega) (by omega)) ?_
  refine tr 8 ?_
  first
    | refine sk ?_
    | (refine rc (hs := get_spec _ _ _ (h4.sep (by repeat (first | with_reducible exact Sel.head | apply Sel.tail))) (by rw [List.length_take]; omega)) (k := ?_)
       rintro ⟨⟩ -
       try simp only [List.cons_append, List.nil_append])
  refine nx ?_
  refine any_next (by (try (apply bk 10 rfl (rd_slice (i := 4) (j := 256) Try.underlying44 ei5 rfl rfl rfl (by omega) (by omega) (by omega)))); (try (apply bk 9 rfl (rd_move rfl))); (try (apply bd 7)); (try (apply bd 6)); apply bd 5; apply bd 4; apply bd 3; apply bd 2; apply bk 1 rfl (rd_slice (i := 4) (j := 256) Try.underlying44 ei5 rfl rfl rfl (by omega) (by omega) (by omega)); apply bk 0 rfl (rd_move rfl); exact .nil) ?_
  refine tr 11 ?_
  first
    | refine sk ?_
    | (refine rc (hs := sum_spec _ _ _ (h5.sep (by repeat (first | with_reducible exact Sel.head | apply Sel.tail)))) (k := ?_)
       rintro ⟨⟩ -
       try simp only [List.cons_append, List.nil_append])
  refine nx ?_
  refine any_next (by (try (apply bd 10)); (try (apply bd 9)); apply bk 1 rfl (rd_slice (i := 4) (j := 256) Try.underlying44 ei5 rfl rfl rfl (by omega) (by omega) (by omega)); apply bk 0 rfl (rd_move rfl); exact .nil) ?_
  first | refine ts 12 ?_ | refine ta 12 rfl (rd_cvu Try.underlying121 Try.underlying120 rfl) ?_
  first | refine ts 13 ?_ | refine ta 13 rfl (rd_eq rfl rfl) ?_
  refine ta 14 rfl (rd_pick rfl rfl) ?_
  refine ta 15 rfl (rd_assign rfl) ?_
  refine ta 16 rfl (rd_assign rfl) ?_
  refine any_nil (by kernel_rfl) ?_
  refine St.kp [(2, _), (3, _)] ?_
  refine St.then_n ?_
  refine do_ret ?_
  refine do_ret2 Try.results67 (res_tmp rfl) (res_tmp rfl) ?_
  intro w hw
  exact ⟨(), trivial, rfl, hw.sb⟩
end Go.Proofs.Ytgeldfgcicjidaa
