/- How the arguments of the transfers' laws read: commands, asks, results. -/
import Derived.Test.YtglcmlicfmmlpaaArgs
import Derived.Test.YtglcmlicfmmlpaaTxnAsks
namespace Go.Proofs.Ytglcmlicfmmlpaa
open Go.ChangeShapes Go.WideShapes Go.ChangeAt Go.RowKit Go.Deep

section
variable {H : Type} {enc : TypeId × Value → H} {P : Program}
/-- A struct, field by field. -/
theorem rd_field {t : TypeId} {fs : Array Field} (ht : P.underlying t = some (.struct fs)) {W : World} {fuel : Nat} {cs : List Value} {x : DataW H × List MemPlace}
    (h : DataW.trod enc P W 0 (fun _ => true) true fuel t cs = some x) (hz : Sized P t x.1) :
    cs.length = P.cellsOf t ∧ ∀ (i : Nat) (f : Field), fs[i]? = some f → ∃ (y : DataW H × List MemPlace) (n : Nat), DataW.trod enc P W 0 (fun _ => true) true n f.type ((cs.drop f.offset).take (P.cellsOf f.type)) = some y ∧ Sized P f.type y.1 := by
  obtain ⟨xs, n, _, rfl, hl, hlen, hf⟩ := DataW.trod_struct ht h
  refine ⟨hl, fun i f hi => ?_⟩
  have hlt : i < fs.size := (Array.getElem?_eq_some_iff.1 hi).1
  have g := hf i f hi
  rw [List.getElem?_eq_getElem (by omega)] at g
  exact ⟨_, n, g, hz.field ht hi (by simp [List.getElem?_eq_getElem (show i < xs.length by omega)])⟩
/-- A field of one cell. -/
theorem rd_one {W : World} {cs : List Value} {f : Field} (h : ∃ (y : DataW H × List MemPlace) (n : Nat), DataW.trod enc P W 0 (fun _ => true) true n f.type ((cs.drop f.offset).take (P.cellsOf f.type)) = some y ∧ Sized P f.type y.1)
    (h1 : P.cellsOf f.type = 1) (hlt : f.offset < cs.length) : ∃ (c : Value) (y : DataW H × List MemPlace) (n : Nat), cs[f.offset]? = some c ∧ DataW.trod enc P W 0 (fun _ => true) true n f.type [c] = some y ∧ Sized P f.type y.1 := by
  obtain ⟨y, n, g, hz⟩ := h
  rw [h1, take1_drop cs f.offset undef hlt] at g
  exact ⟨_, y, n, by simp [List.getD, List.getElem?_eq_getElem hlt], g, hz⟩
/-- A struct within a struct. -/
theorem rd_sub {W : World} {cs : List Value} {f : Field} (h : ∃ (y : DataW H × List MemPlace) (n : Nat), DataW.trod enc P W 0 (fun _ => true) true n f.type ((cs.drop f.offset).take (P.cellsOf f.type)) = some y ∧ Sized P f.type y.1)
    {T : TypeId} {m : Nat} {sub : List Value} (hT : f.type = T) (h1 : P.cellsOf T = m) (hs : (cs.drop f.offset).take m = sub) : ∃ (y : DataW H × List MemPlace) (n : Nat), DataW.trod enc P W 0 (fun _ => true) true n T sub = some y ∧ Sized P T y.1 := by
  obtain ⟨y, n, g, hz⟩ := h
  rw [hT, h1, hs] at g
  rw [hT] at hz
  exact ⟨y, n, g, hz⟩
end
abbrev opL (o : Op) : List Value := [.int .i64 o.kind, .string o.src, .string o.dst, .int .i64 o.amt, .string o.key, .int .i64 o.slot, .int .i64 o.shard]
abbrev cmdL (c : Cmd) (v : Value) : List Value := [.int .i64 c.kind, .int .i64 c.op.kind, .string c.op.src, .string c.op.dst, .int .i64 c.op.amt, .string c.op.key, .int .i64 c.op.slot, .int .i64 c.op.shard, .string c.id, .string c.name, .int .i64 c.n, .int .i64 c.why, .int .i64 c.slot, .int .i64 c.epoch, .int .i64 c.at_, .bool c.last, v]
/-- A row: whose, and how much. -/
def RowR (r : ByteArray × Int) (cs : List Value) : Prop := cs = [.string r.1, .int .i64 r.2]
/-- Bytes of the world as it was. -/
def BsW (W : World) (v : Value) (bs : List UInt8) : Prop := Bs W (fun b => b < W.heap.size) v bs ∧ bs.length ≤ 140737488351232
set_option maxRecDepth 100000 in
theorem rd_op {H : Type} {enc : TypeId × Value → H} {W : World} (n : Nat) (cs : List Value) (y : DataW H × List MemPlace) (h : DataW.trod enc Try.prog W 0 (fun _ => true) true n 24 cs = some y)
    (hz : Sized Try.prog 24 y.1) : ∃ o : Op, cs = opL o := by
  obtain ⟨hl, hf⟩ := rd_field Try.underlying24 h hz
  rw [show Try.prog.cellsOf 24 = 7 from by kernel_rfl] at hl
  match cs, hl with
  | [c0, c1, c2, c3, c4, c5, c6], _ =>
    obtain ⟨u0, y0, n0, g0, h0, hz0⟩ := rd_one (hf 0 _ rfl) (by kernel_rfl) (by simp)
    obtain rfl : c0 = u0 := Option.some.inj g0
    obtain ⟨k0, e0, _, _⟩ := DataW.trod_int Try.underlying3 h0
    obtain rfl := (List.cons.inj e0).1
    obtain ⟨u1, y1, n1, g1, h1, hz1⟩ := rd_one (hf 1 _ rfl) (by kernel_rfl) (by simp)
    obtain rfl : c1 = u1 := Option.some.inj g1
    obtain ⟨k1, e1, _, _⟩ := DataW.trod_string Try.underlying9 h1
    obtain rfl := (List.cons.inj e1).1
    obtain ⟨u2, y2, n2, g2, h2, hz2⟩ := rd_one (hf 2 _ rfl) (by kernel_rfl) (by simp)
    obtain rfl : c2 = u2 := Option.some.inj g2
    obtain ⟨k2, e2, _, _⟩ := DataW.trod_string Try.underlying9 h2
    obtain rfl := (List.cons.inj e2).1
    obtain ⟨u3, y3, n3, g3, h3, hz3⟩ := rd_one (hf 3 _ rfl) (by kernel_rfl) (by simp)
    obtain rfl : c3 = u3 := Option.some.inj g3
    obtain ⟨k3, e3, _, _⟩ := DataW.trod_int Try.underlying2 h3
    obtain rfl := (List.cons.inj e3).1
    obtain ⟨u4, y4, n4, g4, h4, hz4⟩ := rd_one (hf 4 _ rfl) (by kernel_rfl) (by simp)
    obtain rfl : c4 = u4 := Option.some.inj g4
    obtain ⟨k4, e4, _, _⟩ := DataW.trod_string Try.underlying9 h4
    obtain rfl := (List.cons.inj e4).1
    obtain ⟨u5, y5, n5, g5, h5, hz5⟩ := rd_one (hf 5 _ rfl) (by kernel_rfl) (by simp)
    obtain rfl : c5 = u5 := Option.some.inj g5
    obtain ⟨k5, e5, _, _⟩ := DataW.trod_int Try.underlying3 h5
    obtain rfl := (List.cons.inj e5).1
    obtain ⟨u6, y6, n6, g6, h6, hz6⟩ := rd_one (hf 6 _ rfl) (by kernel_rfl) (by simp)
    obtain rfl : c6 = u6 := Option.some.inj g6
    obtain ⟨k6, e6, _, _⟩ := DataW.trod_int Try.underlying3 h6
    obtain rfl := (List.cons.inj e6).1
    exact ⟨⟨k0, k1, k2, k3, k4, k5, k6⟩, rfl⟩
set_option maxRecDepth 100000 in
theorem rd_cmd {H : Type} {enc : TypeId × Value → H} {W : World} (n : Nat) (cs : List Value) (y : DataW H × List MemPlace) (h : DataW.trod enc Try.prog W 0 (fun _ => true) true n 28 cs = some y)
    (hz : Sized Try.prog 28 y.1) : ∃ (c : Cmd) (v : Value) (bs : List UInt8), cs = cmdL c v ∧ BsW W v bs := by
  obtain ⟨hl, hf⟩ := rd_field Try.underlying28 h hz
  rw [show Try.prog.cellsOf 28 = 17 from by kernel_rfl] at hl
  match cs, hl with
  | [c0, c1, c2, c3, c4, c5, c6, c7, c8, c9, c10, c11, c12, c13, c14, c15, c16], _ =>
    obtain ⟨u0, y0, n0, g0, h0, hz0⟩ := rd_one (hf 0 _ rfl) (by kernel_rfl) (by simp)
    obtain rfl : c0 = u0 := Option.some.inj g0
    obtain ⟨k0, e0, _, _⟩ := DataW.trod_int Try.underlying3 h0
    obtain rfl := (List.cons.inj e0).1
    obtain ⟨y1, n1, h1, hz1⟩ := rd_sub (hf 1 _ rfl) (T := 24) (m := 7) (sub := [c1, c2, c3, c4, c5, c6, c7]) rfl (by kernel_rfl) rfl
    obtain ⟨o, eo⟩ := rd_op _ _ _ h1 hz1
    obtain ⟨u2, y2, n2, g2, h2, hz2⟩ := rd_one (hf 2 _ rfl) (by kernel_rfl) (by simp)
    obtain rfl : c8 = u2 := Option.some.inj g2
    obtain ⟨k2, e2, _, _⟩ := DataW.trod_string Try.underlying9 h2
    obtain rfl := (List.cons.inj e2).1
    obtain ⟨u3, y3, n3, g3, h3, hz3⟩ := rd_one (hf 3 _ rfl) (by kernel_rfl) (by simp)
    obtain rfl : c9 = u3 := Option.some.inj g3
    obtain ⟨k3, e3, _, _⟩ := DataW.trod_string Try.underlying9 h3
    obtain rfl := (List.cons.inj e3).1
    obtain ⟨u4, y4, n4, g4, h4, hz4⟩ := rd_one (hf 4 _ rfl) (by kernel_rfl) (by simp)
    obtain rfl : c10 = u4 := Option.some.inj g4
    obtain ⟨k4, e4, _, _⟩ := DataW.trod_int Try.underlying2 h4
    obtain rfl := (List.cons.inj e4).1
    obtain ⟨u5, y5, n5, g5, h5, hz5⟩ := rd_one (hf 5 _ rfl) (by kernel_rfl) (by simp)
    obtain rfl : c11 = u5 := Option.some.inj g5
    obtain ⟨k5, e5, _, _⟩ := DataW.trod_int Try.underlying25 h5
    obtain rfl := (List.cons.inj e5).1
    obtain ⟨u6, y6, n6, g6, h6, hz6⟩ := rd_one (hf 6 _ rfl) (by kernel_rfl) (by simp)
    obtain rfl : c12 = u6 := Option.some.inj g6
    obtain ⟨k6, e6, _, _⟩ := DataW.trod_int Try.underlying3 h6
    obtain rfl := (List.cons.inj e6).1
    obtain ⟨u7, y7, n7, g7, h7, hz7⟩ := rd_one (hf 7 _ rfl) (by kernel_rfl) (by simp)
    obtain rfl : c13 = u7 := Option.some.inj g7
    obtain ⟨k7, e7, _, _⟩ := DataW.trod_int Try.underlying2 h7
    obtain rfl := (List.cons.inj e7).1
    obtain ⟨u8, y8, n8, g8, h8, hz8⟩ := rd_one (hf 8 _ rfl) (by kernel_rfl) (by simp)
    obtain rfl : c14 = u8 := Option.some.inj g8
    obtain ⟨k8, e8, _, _⟩ := DataW.trod_int Try.underlying3 h8
    obtain rfl := (List.cons.inj e8).1
    obtain ⟨u9, y9, n9, g9, h9, hz9⟩ := rd_one (hf 9 _ rfl) (by kernel_rfl) (by simp)
    obtain rfl : c15 = u9 := Option.some.inj g9
    obtain ⟨k9, e9, _⟩ := DataW.trod_bool Try.underlying4 h9
    obtain rfl := (List.cons.inj e9).1
    obtain ⟨u10, y10, n10, g10, h10, hz10⟩ := rd_one (hf 10 _ rfl) (by kernel_rfl) (by simp)
    obtain rfl : c16 = u10 := Option.some.inj g10
    obtain ⟨v, bs, e10, hb10, hbl10⟩ := rd_bytes Try.underlying26 Try.underlying5 (by kernel_rfl) (by kernel_rfl) h10 hz10
    obtain rfl := (List.cons.inj e10).1
    simp only [opL, List.cons.injEq] at eo
    obtain ⟨rfl, rfl, rfl, rfl, rfl, rfl, rfl, _⟩ := eo
    exact ⟨⟨k0, o, k2, k3, k4, k5, k6, k7, k8, k9⟩, _, bs, rfl, hb10, hbl10⟩
set_option maxRecDepth 100000 in
theorem rd_ask {H : Type} {enc : TypeId × Value → H} {W : World} (n : Nat) (cs : List Value) (y : DataW H × List MemPlace) (h : DataW.trod enc Try.prog W 0 (fun _ => true) true n 30 cs = some y)
    (hz : Sized Try.prog 30 y.1) : ∃ (g : Int) (c : Cmd) (v : Value) (bs : List UInt8), cs = .int .i64 g :: cmdL c v ∧ BsW W v bs := by
  obtain ⟨hl, hf⟩ := rd_field Try.underlying30 h hz
  rw [show Try.prog.cellsOf 30 = 18 from by kernel_rfl] at hl
  match cs, hl with
  | [c0, c1, c2, c3, c4, c5, c6, c7, c8, c9, c10, c11, c12, c13, c14, c15, c16, c17], _ =>
    obtain ⟨u0, y0, n0, g0, h0, hz0⟩ := rd_one (hf 0 _ rfl) (by kernel_rfl) (by simp)
    obtain rfl : c0 = u0 := Option.some.inj g0
    obtain ⟨g, e0, _, _⟩ := DataW.trod_int Try.underlying3 h0
    obtain rfl := (List.cons.inj e0).1
    obtain ⟨y1, n1, h1, hz1⟩ := rd_sub (hf 1 _ rfl) (T := 28) (m := 17) (sub := [c1, c2, c3, c4, c5, c6, c7, c8, c9, c10, c11, c12, c13, c14, c15, c16, c17]) rfl (by kernel_rfl) rfl
    obtain ⟨c, v, bs, eo, hb⟩ := rd_cmd _ _ _ h1 hz1
    simp only [cmdL, List.cons.injEq] at eo
    obtain ⟨rfl, rfl, rfl, rfl, rfl, rfl, rfl, rfl, rfl, rfl, rfl, rfl, rfl, rfl, rfl, rfl, rfl, _⟩ := eo
    exact ⟨g, c, _, bs, rfl, hb⟩
set_option maxRecDepth 100000 in
theorem rd_row {H : Type} {enc : TypeId × Value → H} {W : World} (n : Nat) (cs : List Value) (y : DataW H × List MemPlace) (h : DataW.trod enc Try.prog W 0 (fun _ => true) true n 108 cs = some y)
    (hz : Sized Try.prog 108 y.1) : ∃ r : ByteArray × Int, RowR r cs := by
  obtain ⟨hl, hf⟩ := rd_field Try.underlying108 h hz
  rw [show Try.prog.cellsOf 108 = 2 from by kernel_rfl] at hl
  match cs, hl with
  | [c0, c1], _ =>
    obtain ⟨u0, y0, n0, g0, h0, hz0⟩ := rd_one (hf 0 _ rfl) (by kernel_rfl) (by simp)
    obtain rfl : c0 = u0 := Option.some.inj g0
    obtain ⟨k0, e0, _, _⟩ := DataW.trod_string Try.underlying9 h0
    obtain rfl := (List.cons.inj e0).1
    obtain ⟨u1, y1, n1, g1, h1, hz1⟩ := rd_one (hf 1 _ rfl) (by kernel_rfl) (by simp)
    obtain rfl : c1 = u1 := Option.some.inj g1
    obtain ⟨k1, e1, _, _⟩ := DataW.trod_int Try.underlying2 h1
    obtain rfl := (List.cons.inj e1).1
    exact ⟨(k0, k1), rfl⟩
set_option maxRecDepth 100000 in
theorem rd_reply {H : Type} {enc : TypeId × Value → H} {W : World} (n : Nat) (cs : List Value) (y : DataW H × List MemPlace) (h : DataW.trod enc Try.prog W 0 (fun _ => true) true n 33 cs = some y)
    (hz : Sized Try.prog 33 y.1) : ∃ (why amt : Int) (v : Value) (L : List (ByteArray × Int)) (xs : List Value), cs = [.int .i64 why, .int .i64 amt, v] ∧ Sl W (fun b => b < W.heap.size) 2 v L.length xs ∧ RowsL RowR L xs ∧ L.length * 24 ≤ reachBytes := by
  obtain ⟨hl, hf⟩ := rd_field Try.underlying33 h hz
  rw [show Try.prog.cellsOf 33 = 3 from by kernel_rfl] at hl
  match cs, hl with
  | [c0, c1, c2], _ =>
    obtain ⟨u0, y0, n0, g0, h0, hz0⟩ := rd_one (hf 0 _ rfl) (by kernel_rfl) (by simp)
    obtain rfl : c0 = u0 := Option.some.inj g0
    obtain ⟨k0, e0, _, _⟩ := DataW.trod_int Try.underlying25 h0
    obtain rfl := (List.cons.inj e0).1
    obtain ⟨u1, y1, n1, g1, h1, hz1⟩ := rd_one (hf 1 _ rfl) (by kernel_rfl) (by simp)
    obtain rfl : c1 = u1 := Option.some.inj g1
    obtain ⟨k1, e1, _, _⟩ := DataW.trod_int Try.underlying2 h1
    obtain rfl := (List.cons.inj e1).1
    obtain ⟨u2, y2, n2, g2, h2, hz2⟩ := rd_one (hf 2 _ rfl) (by kernel_rfl) (by simp)
    obtain rfl : c2 = u2 := Option.some.inj g2
    obtain ⟨v, L, xs, e2, hb2, hr2, hbl2⟩ := rd_rows (α := (ByteArray × Int)) (R := RowR) (k := 2) Try.underlying31 (by kernel_rfl) (by omega) (fun n cs y hy hyz => rd_row n cs y hy hyz) h2 hz2
    obtain rfl := (List.cons.inj e2).1
    exact ⟨k0, k1, _, L, xs, rfl, hb2, hr2, by rw [show Try.prog.bytesOf 108 = 24 from by kernel_rfl] at hbl2; exact hbl2⟩
set_option maxRecDepth 100000 in
theorem rd_result {H : Type} {enc : TypeId × Value → H} {W : World} (n : Nat) (cs : List Value) (y : DataW H × List MemPlace) (h : DataW.trod enc Try.prog W 0 (fun _ => true) true n 35 cs = some y)
    (hz : Sized Try.prog 35 y.1) : ∃ (why : Int) (wait : Bool) (rw_ ra : Int) (v : Value) (L : List (ByteArray × Int)) (xs : List Value) (vd : Value) (bs : List UInt8), cs = [.int .i64 why, .bool wait, .int .i64 rw_, .int .i64 ra, v, vd] ∧ Sl W (fun b => b < W.heap.size) 2 v L.length xs ∧ RowsL RowR L xs ∧ L.length * 24 ≤ reachBytes ∧ BsW W vd bs := by
  obtain ⟨hl, hf⟩ := rd_field Try.underlying35 h hz
  rw [show Try.prog.cellsOf 35 = 6 from by kernel_rfl] at hl
  match cs, hl with
  | [c0, c1, c2, c3, c4, c5], _ =>
    obtain ⟨u0, y0, n0, g0, h0, hz0⟩ := rd_one (hf 0 _ rfl) (by kernel_rfl) (by simp)
    obtain rfl : c0 = u0 := Option.some.inj g0
    obtain ⟨k0, e0, _, _⟩ := DataW.trod_int Try.underlying25 h0
    obtain rfl := (List.cons.inj e0).1
    obtain ⟨u1, y1, n1, g1, h1, hz1⟩ := rd_one (hf 1 _ rfl) (by kernel_rfl) (by simp)
    obtain rfl : c1 = u1 := Option.some.inj g1
    obtain ⟨k1, e1, _⟩ := DataW.trod_bool Try.underlying4 h1
    obtain rfl := (List.cons.inj e1).1
    obtain ⟨y2, n2, h2, hz2⟩ := rd_sub (hf 2 _ rfl) (T := 33) (m := 3) (sub := [c2, c3, c4]) rfl (by kernel_rfl) rfl
    obtain ⟨rw_, ra, v, L, xs, eo, q1, q2, q3⟩ := rd_reply _ _ _ h2 hz2
    obtain ⟨u3, y3, n3, g3, h3, hz3⟩ := rd_one (hf 3 _ rfl) (by kernel_rfl) (by simp)
    obtain rfl : c5 = u3 := Option.some.inj g3
    obtain ⟨vd, bs, e3, hb3, hbl3⟩ := rd_bytes Try.underlying26 Try.underlying5 (by kernel_rfl) (by kernel_rfl) h3 hz3
    obtain rfl := (List.cons.inj e3).1
    simp only [List.cons.injEq] at eo
    obtain ⟨rfl, rfl, rfl, _⟩ := eo
    exact ⟨k0, k1, rw_, ra, _, L, xs, _, bs, rfl, q1, q2, q3, hb3, hbl3⟩
end Go.Proofs.Ytglcmlicfmmlpaa
