/- How calls of an argument's script read. -/
import Derived.Test.YtgeldfgcicjidaaBtRead
import Derived.Test.YtgeldfgcicjidaaT22
namespace Go.Proofs.Ytgeldfgcicjidaa
open Go.ChangeShapes Go.WideShapes Go.ChangeAt Go.RowKit Go.Deep

/-- A call of the argument: its cells. -/
def ObR (W : World) (x : Ob) (cs : List Value) : Prop := cs = obC x ∧ Bs W (fun b => b < W.heap.size) (.slice x.A x.b.length x.cp) x.b ∧ x.b.length ≤ 140737488351232 ∧ Sl W (fun b => b < W.heap.size) 3 (.slice x.lA x.l.length x.lc) x.l.length (x.l.flatMap prC) ∧ ∀ p ∈ x.l, Bs W (fun b => b < W.heap.size) p.v p.b ∧ p.b.length ≤ 140737488351232
theorem rd_ob {H : Type} {enc : TypeId × Value → H} {W : World} (n : Nat) (cs : List Value) (y : DataW H × List MemPlace) (h : DataW.trod enc Try.prog W 0 (fun _ => true) true n 47 cs = some y)
    (hz : Sized Try.prog 47 y.1) : ∃ a : Ob, ObR W a cs := by
  obtain ⟨hl, hf⟩ := rd_struct Try.underlying47 (by kernel_rfl) (by kernel_rfl) h hz
  match cs, hl with
  | [c0, c1, c2, c3, c4], _ =>
    obtain ⟨u0, y0, n0, g0, h0, _⟩ := hf 0 _ rfl
    obtain rfl : c0 = u0 := Option.some.inj g0
    obtain ⟨u1, y1, n1, g1, h1, _⟩ := hf 1 _ rfl
    obtain rfl : c1 = u1 := Option.some.inj g1
    obtain ⟨u2, y2, n2, g2, h2, hz2⟩ := hf 2 _ rfl
    obtain rfl : c2 = u2 := Option.some.inj g2
    obtain ⟨u3, y3, n3, g3, h3, _⟩ := hf 3 _ rfl
    obtain rfl : c3 = u3 := Option.some.inj g3
    obtain ⟨u4, y4, n4, g4, h4, hz4⟩ := hf 4 _ rfl
    obtain rfl : c4 = u4 := Option.some.inj g4
    obtain ⟨k, e0, _, _⟩ := DataW.trod_int Try.underlying3 h0
    obtain ⟨s, e1, _, _⟩ := DataW.trod_string Try.underlying9 h1
    obtain ⟨v, bs, e2, hb, hbl⟩ := rd_bytes Try.underlying44 Try.underlying5 (by kernel_rfl) (by kernel_rfl) h2 hz2
    obtain ⟨m, e3, _, _⟩ := DataW.trod_int Try.underlying3 h3
    obtain ⟨w4, l4, x4, e4, hsl4, hrows4, _⟩ := rd_rows (α := Pm) (R := PmR W) (k := 3) Try.underlying22 (by kernel_rfl) (by omega) (fun n cs y hy hyz => rd_pair n cs y hy hyz) h4 hz4
    obtain ⟨A, c, rfl⟩ := sl_len hb
    obtain ⟨A4, c4', rfl⟩ := sl_len hsl4
    obtain ⟨rfl, hB4⟩ := pairs_of l4 x4 hrows4
    obtain rfl := (List.cons.inj e0).1
    obtain rfl := (List.cons.inj e1).1
    obtain rfl := (List.cons.inj e2).1
    obtain rfl := (List.cons.inj e3).1
    obtain rfl := (List.cons.inj e4).1
    exact ⟨⟨k, s.data.toList, A, c, bs, m, A4, c4', l4⟩, rfl, hb, hbl, hsl4, hB4⟩
theorem obs_of {W : World} : ∀ (l : List Ob) (ys : List Value), RowsL (ObR W) l ys → ys = l.flatMap obC ∧ ∀ x ∈ l, ObR W x (obC x)
  | [], ys, h => ⟨h, fun _ h => by cases h⟩
  | x :: l, ys, h => by
    obtain ⟨c, ys', rfl, ⟨rfl, h1⟩, h'⟩ := h
    obtain ⟨rfl, h3⟩ := obs_of l ys' h'
    refine ⟨rfl, fun o ho => ?_⟩
    rcases List.mem_cons.1 ho with rfl | ho
    · exact ⟨rfl, h1⟩
    · exact h3 o ho
end Go.Proofs.Ytgeldfgcicjidaa
