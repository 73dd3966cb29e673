/- How the arguments of the auditor's laws read. -/
import Derived.Test.YtglcmlicfmmlpaaArgs2
import Derived.Test.YtglcmlicfmmlpaaA11
namespace Go.Proofs.Ytglcmlicfmmlpaa
open Go.ChangeShapes Go.WideShapes Go.ChangeAt Go.RowKit Go.Deep

set_option maxRecDepth 100000 in
theorem rd2_gop {H : Type} {enc : TypeId × Value → H} {W : World} {N : Nat}  (n : Nat) (cs : List Value) (y : DataW H × List MemPlace) (h : DataW.trod enc Try.prog W 0 (fun _ => true) true n 24 cs = some y)
    (hz : Fit Try.prog N 24 y.1) : ∃ o : GOp, cs = o.L := by
  obtain ⟨hl, hf⟩ := rd2_field Try.underlying24 h hz
  rw [show Try.prog.cellsOf 24 = 7 from by kernel_rfl] at hl
  match cs, hl with
  | [c0, c1, c2, c3, c4, c5, c6], _ =>
    obtain ⟨u0, y0, n0, g0, h0, hz0⟩ := rd2_one (hf 0 _ rfl) (by kernel_rfl) (by simp)
    obtain rfl : c0 = u0 := Option.some.inj g0
    obtain ⟨a0, rfl, k0⟩ := rd2_i64 Try.underlying3 h0
    obtain ⟨u1, y1, n1, g1, h1, hz1⟩ := rd2_one (hf 1 _ rfl) (by kernel_rfl) (by simp)
    obtain rfl : c1 = u1 := Option.some.inj g1
    obtain ⟨a1, rfl, k1, b1⟩ := rd2_str Try.underlying9 h1 hz1
    obtain ⟨u2, y2, n2, g2, h2, hz2⟩ := rd2_one (hf 2 _ rfl) (by kernel_rfl) (by simp)
    obtain rfl : c2 = u2 := Option.some.inj g2
    obtain ⟨a2, rfl, k2, b2⟩ := rd2_str Try.underlying9 h2 hz2
    obtain ⟨u3, y3, n3, g3, h3, hz3⟩ := rd2_one (hf 3 _ rfl) (by kernel_rfl) (by simp)
    obtain rfl : c3 = u3 := Option.some.inj g3
    obtain ⟨a3, rfl, k3⟩ := rd2_i64 Try.underlying2 h3
    obtain ⟨u4, y4, n4, g4, h4, hz4⟩ := rd2_one (hf 4 _ rfl) (by kernel_rfl) (by simp)
    obtain rfl : c4 = u4 := Option.some.inj g4
    obtain ⟨a4, rfl, k4, b4⟩ := rd2_str Try.underlying9 h4 hz4
    obtain ⟨u5, y5, n5, g5, h5, hz5⟩ := rd2_one (hf 5 _ rfl) (by kernel_rfl) (by simp)
    obtain rfl : c5 = u5 := Option.some.inj g5
    obtain ⟨a5, rfl, k5⟩ := rd2_i64 Try.underlying3 h5
    obtain ⟨u6, y6, n6, g6, h6, hz6⟩ := rd2_one (hf 6 _ rfl) (by kernel_rfl) (by simp)
    obtain rfl : c6 = u6 := Option.some.inj g6
    obtain ⟨a6, rfl, k6⟩ := rd2_i64 Try.underlying3 h6
    exact ⟨⟨a0, a1, a2, a3, a4, a5, a6⟩, rfl⟩
set_option maxRecDepth 100000 in
theorem rd2_gcmd {H : Type} {enc : TypeId × Value → H} {W : World} {N : Nat}  (n : Nat) (cs : List Value) (y : DataW H × List MemPlace) (h : DataW.trod enc Try.prog W 0 (fun _ => true) true n 28 cs = some y)
    (hz : Fit Try.prog N 28 y.1) : ∃ x : GCmd, cs = x.L ∧ Bs W (fun b => b < W.heap.size) x.v x.data ∧ x.data.length ≤ 140737488351232 ∧ x.data.length + 1 ≤ N := by
  obtain ⟨hl, hf⟩ := rd2_field Try.underlying28 h hz
  rw [show Try.prog.cellsOf 28 = 17 from by kernel_rfl] at hl
  match cs, hl with
  | [c0, c1, c2, c3, c4, c5, c6, c7, c8, c9, c10, c11, c12, c13, c14, c15, c16], _ =>
    obtain ⟨u0, y0, n0, g0, h0, hz0⟩ := rd2_one (hf 0 _ rfl) (by kernel_rfl) (by simp)
    obtain rfl : c0 = u0 := Option.some.inj g0
    obtain ⟨a0, rfl, k0⟩ := rd2_i64 Try.underlying3 h0
    obtain ⟨y1, n1, h1, hz1⟩ := rd2_sub (hf 1 _ rfl) (T := 24) (m := 7) (sub := [c1, c2, c3, c4, c5, c6, c7]) rfl (by kernel_rfl) rfl
    obtain ⟨o, eo⟩ := rd2_gop _ _ _ h1 hz1
    obtain ⟨u2, y2, n2, g2, h2, hz2⟩ := rd2_one (hf 2 _ rfl) (by kernel_rfl) (by simp)
    obtain rfl : c8 = u2 := Option.some.inj g2
    obtain ⟨a2, rfl, k2, b2⟩ := rd2_str Try.underlying9 h2 hz2
    obtain ⟨u3, y3, n3, g3, h3, hz3⟩ := rd2_one (hf 3 _ rfl) (by kernel_rfl) (by simp)
    obtain rfl : c9 = u3 := Option.some.inj g3
    obtain ⟨a3, rfl, k3, b3⟩ := rd2_str Try.underlying9 h3 hz3
    obtain ⟨u4, y4, n4, g4, h4, hz4⟩ := rd2_one (hf 4 _ rfl) (by kernel_rfl) (by simp)
    obtain rfl : c10 = u4 := Option.some.inj g4
    obtain ⟨a4, rfl, k4⟩ := rd2_i64 Try.underlying2 h4
    obtain ⟨u5, y5, n5, g5, h5, hz5⟩ := rd2_one (hf 5 _ rfl) (by kernel_rfl) (by simp)
    obtain rfl : c11 = u5 := Option.some.inj g5
    obtain ⟨a5, rfl, k5⟩ := rd2_i64 Try.underlying25 h5
    obtain ⟨u6, y6, n6, g6, h6, hz6⟩ := rd2_one (hf 6 _ rfl) (by kernel_rfl) (by simp)
    obtain rfl : c12 = u6 := Option.some.inj g6
    obtain ⟨a6, rfl, k6⟩ := rd2_i64 Try.underlying3 h6
    obtain ⟨u7, y7, n7, g7, h7, hz7⟩ := rd2_one (hf 7 _ rfl) (by kernel_rfl) (by simp)
    obtain rfl : c13 = u7 := Option.some.inj g7
    obtain ⟨a7, rfl, k7⟩ := rd2_i64 Try.underlying2 h7
    obtain ⟨u8, y8, n8, g8, h8, hz8⟩ := rd2_one (hf 8 _ rfl) (by kernel_rfl) (by simp)
    obtain rfl : c14 = u8 := Option.some.inj g8
    obtain ⟨a8, rfl, k8⟩ := rd2_i64 Try.underlying3 h8
    obtain ⟨u9, y9, n9, g9, h9, hz9⟩ := rd2_one (hf 9 _ rfl) (by kernel_rfl) (by simp)
    obtain rfl : c15 = u9 := Option.some.inj g9
    obtain ⟨a9, rfl⟩ := rd2_bool Try.underlying4 h9
    obtain ⟨u10, y10, n10, g10, h10, hz10⟩ := rd2_one (hf 10 _ rfl) (by kernel_rfl) (by simp)
    obtain rfl : c16 = u10 := Option.some.inj g10
    obtain ⟨A, c, bs, e10, s10, k10, b10⟩ := rd2_bytes Try.underlying26 Try.underlying5 (by kernel_rfl) (by kernel_rfl) h10 hz10
    obtain rfl := (List.cons.inj e10).1
    refine ⟨⟨a0, o, a2, a3, a4, a5, a6, a7, a8, a9, A, c, bs⟩, ?_, s10, k10, b10⟩
    simp only [List.cons.injEq, and_true] at eo
    obtain ⟨rfl, rfl, rfl, rfl, rfl, rfl, rfl⟩ := eo
    rfl
set_option maxRecDepth 100000 in
theorem rd2_gask {H : Type} {enc : TypeId × Value → H} {W : World} {N : Nat}  (n : Nat) (cs : List Value) (y : DataW H × List MemPlace) (h : DataW.trod enc Try.prog W 0 (fun _ => true) true n 30 cs = some y)
    (hz : Fit Try.prog N 30 y.1) : ∃ x : GAsk, cs = x.L ∧ Bs W (fun b => b < W.heap.size) x.cmd.v x.cmd.data ∧ x.cmd.data.length ≤ 140737488351232 ∧ x.cmd.data.length + 1 ≤ N := by
  obtain ⟨hl, hf⟩ := rd2_field Try.underlying30 h hz
  rw [show Try.prog.cellsOf 30 = 18 from by kernel_rfl] at hl
  match cs, hl with
  | [c0, c1, c2, c3, c4, c5, c6, c7, c8, c9, c10, c11, c12, c13, c14, c15, c16, c17], _ =>
    obtain ⟨u0, y0, n0, g0, h0, hz0⟩ := rd2_one (hf 0 _ rfl) (by kernel_rfl) (by simp)
    obtain rfl : c0 = u0 := Option.some.inj g0
    obtain ⟨a0, rfl, k0⟩ := rd2_i64 Try.underlying3 h0
    obtain ⟨y1, n1, h1, hz1⟩ := rd2_sub (hf 1 _ rfl) (T := 28) (m := 17) (sub := [c1, c2, c3, c4, c5, c6, c7, c8, c9, c10, c11, c12, c13, c14, c15, c16, c17]) rfl (by kernel_rfl) rfl
    obtain ⟨x, ex, q1, q2, q3⟩ := rd2_gcmd _ _ _ h1 hz1
    exact ⟨⟨a0, x⟩, by rw [ex], q1, q2, q3⟩
/-- A row: whose, and how much. -/
def GRowR (r : GRow) (cs : List Value) : Prop := cs = rowC r
set_option maxRecDepth 100000 in
theorem rd2_grow {H : Type} {enc : TypeId × Value → H} {W : World} {N : Nat}  (n : Nat) (cs : List Value) (y : DataW H × List MemPlace) (h : DataW.trod enc Try.prog W 0 (fun _ => true) true n 108 cs = some y)
    (hz : Fit Try.prog N 108 y.1) : ∃ r : GRow, GRowR r cs := by
  obtain ⟨hl, hf⟩ := rd2_field Try.underlying108 h hz
  rw [show Try.prog.cellsOf 108 = 2 from by kernel_rfl] at hl
  match cs, hl with
  | [c0, c1], _ =>
    obtain ⟨u0, y0, n0, g0, h0, hz0⟩ := rd2_one (hf 0 _ rfl) (by kernel_rfl) (by simp)
    obtain rfl : c0 = u0 := Option.some.inj g0
    obtain ⟨a0, rfl, k0, b0⟩ := rd2_str Try.underlying9 h0 hz0
    obtain ⟨u1, y1, n1, g1, h1, hz1⟩ := rd2_one (hf 1 _ rfl) (by kernel_rfl) (by simp)
    obtain rfl : c1 = u1 := Option.some.inj g1
    obtain ⟨a1, rfl, k1⟩ := rd2_i64 Try.underlying2 h1
    exact ⟨⟨a0, a1⟩, rfl⟩
theorem grows : ∀ (l : List GRow) (ys : List Value), RowsL GRowR l ys → ys = l.flatMap rowC
  | [], ys, h => h
  | x :: l, ys, h => by
    obtain ⟨c, ys', rfl, rfl, h'⟩ := h
    rw [grows l ys' h']
    rfl
set_option maxRecDepth 100000 in
theorem rd2_greply {H : Type} {enc : TypeId × Value → H} {W : World} {N : Nat}  (n : Nat) (cs : List Value) (y : DataW H × List MemPlace) (h : DataW.trod enc Try.prog W 0 (fun _ => true) true n 33 cs = some y)
    (hz : Fit Try.prog N 33 y.1) : ∃ x : GReply, cs = x.L ∧ Sl W (fun b => b < W.heap.size) 2 x.v x.rows.length (x.rows.flatMap rowC) ∧ x.rows.length + 1 ≤ N := by
  obtain ⟨hl, hf⟩ := rd2_field Try.underlying33 h hz
  rw [show Try.prog.cellsOf 33 = 3 from by kernel_rfl] at hl
  match cs, hl with
  | [c0, c1, c2], _ =>
    obtain ⟨u0, y0, n0, g0, h0, hz0⟩ := rd2_one (hf 0 _ rfl) (by kernel_rfl) (by simp)
    obtain rfl : c0 = u0 := Option.some.inj g0
    obtain ⟨a0, rfl, k0⟩ := rd2_i64 Try.underlying25 h0
    obtain ⟨u1, y1, n1, g1, h1, hz1⟩ := rd2_one (hf 1 _ rfl) (by kernel_rfl) (by simp)
    obtain rfl : c1 = u1 := Option.some.inj g1
    obtain ⟨a1, rfl, k1⟩ := rd2_i64 Try.underlying2 h1
    obtain ⟨u2, y2, n2, g2, h2, hz2⟩ := rd2_one (hf 2 _ rfl) (by kernel_rfl) (by simp)
    obtain rfl : c2 = u2 := Option.some.inj g2
    obtain ⟨v, l, ys, e2, s2, r2, k2, b2⟩ := rd2_rows (α := GRow) (R := GRowR) (k := 2) Try.underlying31 (by kernel_rfl) (by omega) (fun n cs y hy hyz => rd2_grow n cs y hy hyz) h2 hz2
    obtain rfl := (List.cons.inj e2).1
    obtain rfl := grows l ys r2
    obtain ⟨A, c, rfl, _⟩ := id s2
    exact ⟨⟨a0, a1, A, c, l⟩, rfl, s2, b2⟩
set_option maxRecDepth 100000 in
theorem rd2_gres {H : Type} {enc : TypeId × Value → H} {W : World} {N : Nat}  (n : Nat) (cs : List Value) (y : DataW H × List MemPlace) (h : DataW.trod enc Try.prog W 0 (fun _ => true) true n 35 cs = some y)
    (hz : Fit Try.prog N 35 y.1) : ∃ x : GRes, cs = x.L ∧ Sl W (fun b => b < W.heap.size) 2 x.reply.v x.reply.rows.length (x.reply.rows.flatMap rowC) ∧ x.reply.rows.length + 1 ≤ N := by
  obtain ⟨hl, hf⟩ := rd2_field Try.underlying35 h hz
  rw [show Try.prog.cellsOf 35 = 6 from by kernel_rfl] at hl
  match cs, hl with
  | [c0, c1, c2, c3, c4, c5], _ =>
    obtain ⟨u0, y0, n0, g0, h0, hz0⟩ := rd2_one (hf 0 _ rfl) (by kernel_rfl) (by simp)
    obtain rfl : c0 = u0 := Option.some.inj g0
    obtain ⟨a0, rfl, k0⟩ := rd2_i64 Try.underlying25 h0
    obtain ⟨u1, y1, n1, g1, h1, hz1⟩ := rd2_one (hf 1 _ rfl) (by kernel_rfl) (by simp)
    obtain rfl : c1 = u1 := Option.some.inj g1
    obtain ⟨a1, rfl⟩ := rd2_bool Try.underlying4 h1
    obtain ⟨y2, n2, h2, hz2⟩ := rd2_sub (hf 2 _ rfl) (T := 33) (m := 3) (sub := [c2, c3, c4]) rfl (by kernel_rfl) rfl
    obtain ⟨x, ex, q1, q2⟩ := rd2_greply _ _ _ h2 hz2
    obtain ⟨u3, y3, n3, g3, h3, hz3⟩ := rd2_one (hf 3 _ rfl) (by kernel_rfl) (by simp)
    obtain rfl : c5 = u3 := Option.some.inj g3
    obtain ⟨A, c, bs, e3, s3, k3, b3⟩ := rd2_bytes Try.underlying26 Try.underlying5 (by kernel_rfl) (by kernel_rfl) h3 hz3
    obtain rfl := (List.cons.inj e3).1
    simp only [List.cons.injEq, and_true] at ex
    obtain ⟨rfl, rfl, rfl⟩ := ex
    exact ⟨⟨a0, a1, x, A, c, bs⟩, rfl, q1, q2⟩
/-- A call of the auditor's laws. -/
structure AOpR (W : World) (N : Nat) (x : AOp) : Prop where
  data : Bs W (fun b => b < W.heap.size) x.a.cmd.v x.a.cmd.data
  len : x.a.cmd.data.length ≤ 140737488351232
  lenN : x.a.cmd.data.length + 1 ≤ N
  rows : Sl W (fun b => b < W.heap.size) 2 x.r.reply.v x.r.reply.rows.length (x.r.reply.rows.flatMap rowC)
  rowsN : x.r.reply.rows.length + 1 ≤ N
set_option maxRecDepth 100000 in
theorem rd2_aop {H : Type} {enc : TypeId × Value → H} {W : World} {N : Nat}  (n : Nat) (cs : List Value) (y : DataW H × List MemPlace) (h : DataW.trod enc Try.prog W 0 (fun _ => true) true n 116 cs = some y)
    (hz : Fit Try.prog N 116 y.1) : ∃ x : AOp, cs = x.L ∧ AOpR W N x := by
  obtain ⟨hl, hf⟩ := rd2_field Try.underlying116 h hz
  rw [show Try.prog.cellsOf 116 = 28 from by kernel_rfl] at hl
  match cs, hl with
  | [c0, c1, c2, c3, c4, c5, c6, c7, c8, c9, c10, c11, c12, c13, c14, c15, c16, c17, c18, c19, c20, c21, c22, c23, c24, c25, c26, c27], _ =>
    obtain ⟨u0, y0, n0, g0, h0, hz0⟩ := rd2_one (hf 0 _ rfl) (by kernel_rfl) (by simp)
    obtain rfl : c0 = u0 := Option.some.inj g0
    obtain ⟨a0, rfl, k0⟩ := rd2_i64 Try.underlying3 h0
    obtain ⟨u1, y1, n1, g1, h1, hz1⟩ := rd2_one (hf 1 _ rfl) (by kernel_rfl) (by simp)
    obtain rfl : c1 = u1 := Option.some.inj g1
    obtain ⟨a1, rfl, k1⟩ := rd2_i64 Try.underlying2 h1
    obtain ⟨u2, y2, n2, g2, h2, hz2⟩ := rd2_one (hf 2 _ rfl) (by kernel_rfl) (by simp)
    obtain rfl : c2 = u2 := Option.some.inj g2
    obtain ⟨a2, rfl, k2⟩ := rd2_i64 Try.underlying3 h2
    obtain ⟨y3, n3, h3, hz3⟩ := rd2_sub (hf 3 _ rfl) (T := 30) (m := 18) (sub := [c3, c4, c5, c6, c7, c8, c9, c10, c11, c12, c13, c14, c15, c16, c17, c18, c19, c20]) rfl (by kernel_rfl) rfl
    obtain ⟨x, ex, q1, q2, q3⟩ := rd2_gask _ _ _ h3 hz3
    obtain ⟨y4, n4, h4, hz4⟩ := rd2_sub (hf 4 _ rfl) (T := 35) (m := 6) (sub := [c21, c22, c23, c24, c25, c26]) rfl (by kernel_rfl) rfl
    obtain ⟨y, ey, p1, p2⟩ := rd2_gres _ _ _ h4 hz4
    obtain ⟨u5, y5, n5, g5, h5, hz5⟩ := rd2_one (hf 5 _ rfl) (by kernel_rfl) (by simp)
    obtain rfl : c27 = u5 := Option.some.inj g5
    obtain ⟨a5, rfl, k5⟩ := rd2_i64 Try.underlying3 h5
    refine ⟨⟨a0, a1, a2, x, y, a5⟩, ?_, q1, q2, q3, p1, p2⟩
    simp only [List.cons.injEq, and_true] at ex ey
    obtain ⟨rfl, rfl, rfl, rfl, rfl, rfl, rfl, rfl, rfl, rfl, rfl, rfl, rfl, rfl, rfl, rfl, rfl, rfl⟩ := ex
    obtain ⟨rfl, rfl, rfl, rfl, rfl, rfl⟩ := ey
    rfl
end Go.Proofs.Ytglcmlicfmmlpaa
