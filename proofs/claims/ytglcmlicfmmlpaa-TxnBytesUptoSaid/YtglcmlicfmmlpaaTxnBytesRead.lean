/- How the arguments of TxnBytes read. -/
import Derived.Test.YtglcmlicfmmlpaaArgs2
import Derived.Test.YtglcmlicfmmlpaaC4
namespace Go.Proofs.Ytglcmlicfmmlpaa
open Go.ChangeShapes Go.WideShapes Go.ChangeAt Go.RowKit Go.Deep

set_option maxRecDepth 100000 in
theorem rd2_gop {H : Type} {enc : TypeId × Value → H} {W : World} {N : Nat} (hN : N ≤ 1099511627776) (n : Nat) (cs : List Value) (y : DataW H × List MemPlace) (h : DataW.trod enc Try.prog W 0 (fun _ => true) true n 24 cs = some y)
    (hz : Fit Try.prog N 24 y.1) : ∃ o : GOp, cs = o.L ∧ o.ok ∧ o.src.length + 1 ≤ N ∧ o.dst.length + 1 ≤ N ∧ o.key.length + 1 ≤ N := by
  obtain ⟨hl, hf⟩ := rd2_field Try.underlying24 h hz
  rw [show Try.prog.cellsOf 24 = 7 from by kernel_rfl] at hl
  match cs, hl with
  | [c0, c1, c2, c3, c4, c5, c6], _ =>
    obtain ⟨u0, y0, n0, g0, h0, hz0⟩ := rd2_one (hf 0 _ rfl) (by kernel_rfl) (by simp)
    obtain rfl : c0 = u0 := Option.some.inj g0
    obtain ⟨a0, rfl, k0⟩ := rd2_i64 Try.underlying3 h0
    obtain ⟨u1, y1, n1, g1, h1, hz1⟩ := rd2_one (hf 1 _ rfl) (by kernel_rfl) (by simp)
    obtain rfl : c1 = u1 := Option.some.inj g1
    obtain ⟨a1, rfl, k1, b1⟩ := rd2_str Try.underlying9 h1 hz1
    obtain ⟨u2, y2, n2, g2, h2, hz2⟩ := rd2_one (hf 2 _ rfl) (by kernel_rfl) (by simp)
    obtain rfl : c2 = u2 := Option.some.inj g2
    obtain ⟨a2, rfl, k2, b2⟩ := rd2_str Try.underlying9 h2 hz2
    obtain ⟨u3, y3, n3, g3, h3, hz3⟩ := rd2_one (hf 3 _ rfl) (by kernel_rfl) (by simp)
    obtain rfl : c3 = u3 := Option.some.inj g3
    obtain ⟨a3, rfl, k3⟩ := rd2_i64 Try.underlying2 h3
    obtain ⟨u4, y4, n4, g4, h4, hz4⟩ := rd2_one (hf 4 _ rfl) (by kernel_rfl) (by simp)
    obtain rfl : c4 = u4 := Option.some.inj g4
    obtain ⟨a4, rfl, k4, b4⟩ := rd2_str Try.underlying9 h4 hz4
    obtain ⟨u5, y5, n5, g5, h5, hz5⟩ := rd2_one (hf 5 _ rfl) (by kernel_rfl) (by simp)
    obtain rfl : c5 = u5 := Option.some.inj g5
    obtain ⟨a5, rfl, k5⟩ := rd2_i64 Try.underlying3 h5
    obtain ⟨u6, y6, n6, g6, h6, hz6⟩ := rd2_one (hf 6 _ rfl) (by kernel_rfl) (by simp)
    obtain rfl : c6 = u6 := Option.some.inj g6
    obtain ⟨a6, rfl, k6⟩ := rd2_i64 Try.underlying3 h6
    exact ⟨⟨a0, a1, a2, a3, a4, a5, a6⟩, rfl, ⟨k0, by unfold shortS; dsimp only; omega, by unfold shortS; dsimp only; omega, k3, by unfold shortS; dsimp only; omega, k5, k6⟩, b1, b2, b4⟩
theorem txt_bulk {N : Nat} {s : List UInt8} (h : s.length + 1 ≤ N) (hN : N ≤ 1099511627776) : (txt s).length ≤ N + 10 := by
  have := uvar_len64 (n := s.length) (by omega)
  unfold txt; rw [List.length_append]; omega
theorem cmdB_bulk {N : Nat} {x : GCmd} (h : x.ok) (h1 : x.op.src.length + 1 ≤ N) (h2 : x.op.dst.length + 1 ≤ N) (h3 : x.op.key.length + 1 ≤ N) (h4 : x.id.length + 1 ≤ N) (h5 : x.name.length + 1 ≤ N) (h6 : x.data.length + 1 ≤ N) (hN : N ≤ 1099511627776 := by assumption) : (cmdB x).length ≤ 6 * N + 200 := by
  have := ivar_len h.kind
  have := ivar_len h.op.kind
  have := ivar_len h.op.amt
  have := ivar_len h.op.slot
  have := ivar_len h.op.shard
  have := ivar_len h.n
  have := ivar_len h.why
  have := ivar_len h.slot
  have := ivar_len h.epoch
  have := ivar_len h.at_
  have := uvar_len64 (n := bnat x.last) (by unfold bnat; split <;> decide)
  have := txt_bulk h1 hN
  have := txt_bulk h2 hN
  have := txt_bulk h3 hN
  have := txt_bulk h4 hN
  have := txt_bulk h5 hN
  have := txt_bulk h6 hN
  unfold cmdB opB
  simp only [List.length_append]; omega
set_option maxRecDepth 100000 in
theorem rd2_gcmd {H : Type} {enc : TypeId × Value → H} {W : World} {N : Nat} (hN : N ≤ 1099511627776) (n : Nat) (cs : List Value) (y : DataW H × List MemPlace) (h : DataW.trod enc Try.prog W 0 (fun _ => true) true n 28 cs = some y)
    (hz : Fit Try.prog N 28 y.1) : ∃ x : GCmd, cs = x.L ∧ x.ok ∧ Bs W (fun b => b < W.heap.size) x.v x.data ∧ (cmdB x).length ≤ 6 * N + 200 := by
  obtain ⟨hl, hf⟩ := rd2_field Try.underlying28 h hz
  rw [show Try.prog.cellsOf 28 = 17 from by kernel_rfl] at hl
  match cs, hl with
  | [c0, c1, c2, c3, c4, c5, c6, c7, c8, c9, c10, c11, c12, c13, c14, c15, c16], _ =>
    obtain ⟨u0, y0, n0, g0, h0, hz0⟩ := rd2_one (hf 0 _ rfl) (by kernel_rfl) (by simp)
    obtain rfl : c0 = u0 := Option.some.inj g0
    obtain ⟨a0, rfl, k0⟩ := rd2_i64 Try.underlying3 h0
    obtain ⟨y1, n1, h1, hz1⟩ := rd2_sub (hf 1 _ rfl) (T := 24) (m := 7) (sub := [c1, c2, c3, c4, c5, c6, c7]) rfl (by kernel_rfl) rfl
    obtain ⟨o, eo, ho, q1, q2, q3⟩ := rd2_gop hN _ _ _ h1 hz1
    obtain ⟨u2, y2, n2, g2, h2, hz2⟩ := rd2_one (hf 2 _ rfl) (by kernel_rfl) (by simp)
    obtain rfl : c8 = u2 := Option.some.inj g2
    obtain ⟨a2, rfl, k2, b2⟩ := rd2_str Try.underlying9 h2 hz2
    obtain ⟨u3, y3, n3, g3, h3, hz3⟩ := rd2_one (hf 3 _ rfl) (by kernel_rfl) (by simp)
    obtain rfl : c9 = u3 := Option.some.inj g3
    obtain ⟨a3, rfl, k3, b3⟩ := rd2_str Try.underlying9 h3 hz3
    obtain ⟨u4, y4, n4, g4, h4, hz4⟩ := rd2_one (hf 4 _ rfl) (by kernel_rfl) (by simp)
    obtain rfl : c10 = u4 := Option.some.inj g4
    obtain ⟨a4, rfl, k4⟩ := rd2_i64 Try.underlying2 h4
    obtain ⟨u5, y5, n5, g5, h5, hz5⟩ := rd2_one (hf 5 _ rfl) (by kernel_rfl) (by simp)
    obtain rfl : c11 = u5 := Option.some.inj g5
    obtain ⟨a5, rfl, k5⟩ := rd2_i64 Try.underlying25 h5
    obtain ⟨u6, y6, n6, g6, h6, hz6⟩ := rd2_one (hf 6 _ rfl) (by kernel_rfl) (by simp)
    obtain rfl : c12 = u6 := Option.some.inj g6
    obtain ⟨a6, rfl, k6⟩ := rd2_i64 Try.underlying3 h6
    obtain ⟨u7, y7, n7, g7, h7, hz7⟩ := rd2_one (hf 7 _ rfl) (by kernel_rfl) (by simp)
    obtain rfl : c13 = u7 := Option.some.inj g7
    obtain ⟨a7, rfl, k7⟩ := rd2_i64 Try.underlying2 h7
    obtain ⟨u8, y8, n8, g8, h8, hz8⟩ := rd2_one (hf 8 _ rfl) (by kernel_rfl) (by simp)
    obtain rfl : c14 = u8 := Option.some.inj g8
    obtain ⟨a8, rfl, k8⟩ := rd2_i64 Try.underlying3 h8
    obtain ⟨u9, y9, n9, g9, h9, hz9⟩ := rd2_one (hf 9 _ rfl) (by kernel_rfl) (by simp)
    obtain rfl : c15 = u9 := Option.some.inj g9
    obtain ⟨a9, rfl⟩ := rd2_bool Try.underlying4 h9
    obtain ⟨u10, y10, n10, g10, h10, hz10⟩ := rd2_one (hf 10 _ rfl) (by kernel_rfl) (by simp)
    obtain rfl : c16 = u10 := Option.some.inj g10
    obtain ⟨A, c, bs, e10, s10, k10, b10⟩ := rd2_bytes Try.underlying26 Try.underlying5 (by kernel_rfl) (by kernel_rfl) h10 hz10
    obtain rfl := (List.cons.inj e10).1
    have hok : GCmd.ok ⟨a0, o, a2, a3, a4, a5, a6, a7, a8, a9, A, c, bs⟩ := ⟨k0, ho, by unfold shortS; dsimp only; omega, by unfold shortS; dsimp only; omega, k4, k5, k6, k7, k8, by unfold shortS; dsimp only; omega⟩
    refine ⟨⟨a0, o, a2, a3, a4, a5, a6, a7, a8, a9, A, c, bs⟩, ?_, hok, s10, cmdB_bulk hok q1 q2 q3 b2 b3 b10⟩
    simp only [List.cons.injEq, and_true] at eo
    obtain ⟨rfl, rfl, rfl, rfl, rfl, rfl, rfl⟩ := eo
    rfl
set_option maxRecDepth 100000 in
theorem rd2_gask {H : Type} {enc : TypeId × Value → H} {W : World} {N : Nat} (hN : N ≤ 1099511627776) (n : Nat) (cs : List Value) (y : DataW H × List MemPlace) (h : DataW.trod enc Try.prog W 0 (fun _ => true) true n 30 cs = some y)
    (hz : Fit Try.prog N 30 y.1) : ∃ x : GAsk, cs = x.L ∧ x.ok ∧ Bs W (fun b => b < W.heap.size) x.cmd.v x.cmd.data ∧ (cmdB x.cmd).length ≤ 6 * N + 200 := by
  obtain ⟨hl, hf⟩ := rd2_field Try.underlying30 h hz
  rw [show Try.prog.cellsOf 30 = 18 from by kernel_rfl] at hl
  match cs, hl with
  | [c0, c1, c2, c3, c4, c5, c6, c7, c8, c9, c10, c11, c12, c13, c14, c15, c16, c17], _ =>
    obtain ⟨u0, y0, n0, g0, h0, hz0⟩ := rd2_one (hf 0 _ rfl) (by kernel_rfl) (by simp)
    obtain rfl : c0 = u0 := Option.some.inj g0
    obtain ⟨a0, rfl, k0⟩ := rd2_i64 Try.underlying3 h0
    obtain ⟨y1, n1, h1, hz1⟩ := rd2_sub (hf 1 _ rfl) (T := 28) (m := 17) (sub := [c1, c2, c3, c4, c5, c6, c7, c8, c9, c10, c11, c12, c13, c14, c15, c16, c17]) rfl (by kernel_rfl) rfl
    obtain ⟨x, ex, hx, q1, q2⟩ := rd2_gcmd hN _ _ _ h1 hz1
    exact ⟨⟨a0, x⟩, by rw [ex], ⟨k0, hx⟩, q1, q2⟩
/-- A row: whose, and how much. -/
def GRowR (N : Nat) (r : GRow) (cs : List Value) : Prop := cs = rowC r ∧ i64r r.amount ∧ r.name.length + 1 ≤ N
set_option maxRecDepth 100000 in
theorem rd2_grow {H : Type} {enc : TypeId × Value → H} {W : World} {N : Nat}  (n : Nat) (cs : List Value) (y : DataW H × List MemPlace) (h : DataW.trod enc Try.prog W 0 (fun _ => true) true n 108 cs = some y)
    (hz : Fit Try.prog N 108 y.1) : ∃ r : GRow, GRowR N r cs := by
  obtain ⟨hl, hf⟩ := rd2_field Try.underlying108 h hz
  rw [show Try.prog.cellsOf 108 = 2 from by kernel_rfl] at hl
  match cs, hl with
  | [c0, c1], _ =>
    obtain ⟨u0, y0, n0, g0, h0, hz0⟩ := rd2_one (hf 0 _ rfl) (by kernel_rfl) (by simp)
    obtain rfl : c0 = u0 := Option.some.inj g0
    obtain ⟨a0, rfl, k0, b0⟩ := rd2_str Try.underlying9 h0 hz0
    obtain ⟨u1, y1, n1, g1, h1, hz1⟩ := rd2_one (hf 1 _ rfl) (by kernel_rfl) (by simp)
    obtain rfl : c1 = u1 := Option.some.inj g1
    obtain ⟨a1, rfl, k1⟩ := rd2_i64 Try.underlying2 h1
    exact ⟨⟨a0, a1⟩, rfl, k1, b0⟩
theorem grows {N : Nat} : ∀ (l : List GRow) (ys : List Value), RowsL (GRowR N) l ys → ys = l.flatMap rowC ∧ (∀ r ∈ l, i64r r.amount ∧ r.name.length + 1 ≤ N)
  | [], ys, h => ⟨h, fun _ h => by cases h⟩
  | x :: l, ys, h => by
    obtain ⟨c, ys', rfl, ⟨rfl, h1, h2⟩, h'⟩ := h
    obtain ⟨rfl, h3⟩ := grows l ys' h'
    refine ⟨rfl, fun o ho => ?_⟩
    rcases List.mem_cons.1 ho with rfl | ho
    · exact ⟨h1, h2⟩
    · exact h3 o ho
theorem rows_bulk {N : Nat} (hN : N ≤ 1048576) : ∀ l : List GRow, (∀ r ∈ l, i64r r.amount ∧ r.name.length + 1 ≤ N) → (l.flatMap rowB).length ≤ l.length * (N + 20)
  | [], _ => by simp
  | x :: l, h => by
    have h1 := rows_bulk hN l (fun r hr => h r (List.mem_cons_of_mem _ hr))
    obtain ⟨h2, h3⟩ := h x (List.mem_cons_self ..)
    have h4 := txt_bulk h3 (by omega)
    have h5 := ivar_len h2
    rw [List.flatMap_cons, List.length_append, List.length_cons, Nat.add_mul]
    have h6 : (rowB x).length = (txt x.name).length + (ivar x.amount).length := by unfold rowB; rw [List.length_append]
    omega
set_option maxRecDepth 100000 in
theorem rd2_greply {H : Type} {enc : TypeId × Value → H} {W : World} {N : Nat} (hN : N ≤ 1048576) (n : Nat) (cs : List Value) (y : DataW H × List MemPlace) (h : DataW.trod enc Try.prog W 0 (fun _ => true) true n 33 cs = some y)
    (hz : Fit Try.prog N 33 y.1) : ∃ x : GReply, cs = x.L ∧ x.ok ∧ Sl W (fun b => b < W.heap.size) 2 x.v x.rows.length (x.rows.flatMap rowC) ∧ x.rows.length + 1 ≤ N := by
  obtain ⟨hl, hf⟩ := rd2_field Try.underlying33 h hz
  rw [show Try.prog.cellsOf 33 = 3 from by kernel_rfl] at hl
  match cs, hl with
  | [c0, c1, c2], _ =>
    obtain ⟨u0, y0, n0, g0, h0, hz0⟩ := rd2_one (hf 0 _ rfl) (by kernel_rfl) (by simp)
    obtain rfl : c0 = u0 := Option.some.inj g0
    obtain ⟨a0, rfl, k0⟩ := rd2_i64 Try.underlying25 h0
    obtain ⟨u1, y1, n1, g1, h1, hz1⟩ := rd2_one (hf 1 _ rfl) (by kernel_rfl) (by simp)
    obtain rfl : c1 = u1 := Option.some.inj g1
    obtain ⟨a1, rfl, k1⟩ := rd2_i64 Try.underlying2 h1
    obtain ⟨u2, y2, n2, g2, h2, hz2⟩ := rd2_one (hf 2 _ rfl) (by kernel_rfl) (by simp)
    obtain rfl : c2 = u2 := Option.some.inj g2
    obtain ⟨v, l, ys, e2, s2, r2, k2, b2⟩ := rd2_rows (α := GRow) (R := (GRowR N)) (k := 2) Try.underlying31 (by kernel_rfl) (by omega) (fun n cs y hy hyz => rd2_grow n cs y hy hyz) h2 hz2
    obtain rfl := (List.cons.inj e2).1
    obtain ⟨rfl, hr⟩ := grows l ys r2
    obtain ⟨A, c, rfl, _⟩ := id s2
    refine ⟨⟨a0, a1, A, c, l⟩, rfl, ⟨k0, k1, fun r hm => ⟨by have := (hr r hm).2; unfold shortS; omega, (hr r hm).1⟩, ?_⟩, s2, b2⟩
    have h1 := rows_bulk hN l hr
    have h2 : l.length * (N + 20) ≤ 1048576 * 1048596 := Nat.mul_le_mul (by omega) (by omega)
    dsimp only; omega
set_option maxRecDepth 100000 in
theorem rd2_gres {H : Type} {enc : TypeId × Value → H} {W : World} {N : Nat} (hN : N ≤ 1048576) (n : Nat) (cs : List Value) (y : DataW H × List MemPlace) (h : DataW.trod enc Try.prog W 0 (fun _ => true) true n 35 cs = some y)
    (hz : Fit Try.prog N 35 y.1) : ∃ x : GRes, cs = x.L ∧ x.ok ∧ Bs W (fun b => b < W.heap.size) x.v x.data ∧ Sl W (fun b => b < W.heap.size) 2 x.reply.v x.reply.rows.length (x.reply.rows.flatMap rowC) ∧ x.reply.rows.length + 1 ≤ N := by
  obtain ⟨hl, hf⟩ := rd2_field Try.underlying35 h hz
  rw [show Try.prog.cellsOf 35 = 6 from by kernel_rfl] at hl
  match cs, hl with
  | [c0, c1, c2, c3, c4, c5], _ =>
    obtain ⟨u0, y0, n0, g0, h0, hz0⟩ := rd2_one (hf 0 _ rfl) (by kernel_rfl) (by simp)
    obtain rfl : c0 = u0 := Option.some.inj g0
    obtain ⟨a0, rfl, k0⟩ := rd2_i64 Try.underlying25 h0
    obtain ⟨u1, y1, n1, g1, h1, hz1⟩ := rd2_one (hf 1 _ rfl) (by kernel_rfl) (by simp)
    obtain rfl : c1 = u1 := Option.some.inj g1
    obtain ⟨a1, rfl⟩ := rd2_bool Try.underlying4 h1
    obtain ⟨y2, n2, h2, hz2⟩ := rd2_sub (hf 2 _ rfl) (T := 33) (m := 3) (sub := [c2, c3, c4]) rfl (by kernel_rfl) rfl
    obtain ⟨x, ex, hx, q1, q2⟩ := rd2_greply hN _ _ _ h2 hz2
    obtain ⟨u3, y3, n3, g3, h3, hz3⟩ := rd2_one (hf 3 _ rfl) (by kernel_rfl) (by simp)
    obtain rfl : c5 = u3 := Option.some.inj g3
    obtain ⟨A, c, bs, e3, s3, k3, b3⟩ := rd2_bytes Try.underlying26 Try.underlying5 (by kernel_rfl) (by kernel_rfl) h3 hz3
    obtain rfl := (List.cons.inj e3).1
    simp only [List.cons.injEq, and_true] at ex
    obtain ⟨rfl, rfl, rfl⟩ := ex
    exact ⟨⟨a0, a1, x, A, c, bs⟩, rfl, ⟨k0, hx, by unfold shortS; dsimp only; omega⟩, s3, q1, q2⟩
end Go.Proofs.Ytglcmlicfmmlpaa
