/- How pairs of an argument read. -/
import Derived.Test.YtgeldfgcicjidaaArgs
import Derived.Test.YtgeldfgcicjidaaT16
namespace Go.Proofs.Ytgeldfgcicjidaa
open Go.ChangeShapes Go.WideShapes Go.ChangeAt Go.RowKit Go.Deep

/-- A pair of the argument: its cells. -/
def PmR (W : World) (x : Pm) (cs : List Value) : Prop := cs = prC x ∧ Bs W (fun b => b < W.heap.size) x.v x.b ∧ x.b.length ≤ 140737488351232
theorem rd_pair {H : Type} {enc : TypeId × Value → H} {W : World} (n : Nat) (cs : List Value) (y : DataW H × List MemPlace) (h : DataW.trod enc Try.prog W 0 (fun _ => true) true n 55 cs = some y)
    (hz : Sized Try.prog 55 y.1) : ∃ a : Pm, PmR W a cs := by
  obtain ⟨hl, hf⟩ := rd_struct Try.underlying55 (by kernel_rfl) (by kernel_rfl) h hz
  match cs, hl with
  | [c0, c1, c2], _ =>
    obtain ⟨u0, y0, n0, g0, h0, _⟩ := hf 0 _ rfl
    obtain rfl : c0 = u0 := Option.some.inj g0
    obtain ⟨u1, y1, n1, g1, h1, hz1⟩ := hf 1 _ rfl
    obtain rfl : c1 = u1 := Option.some.inj g1
    obtain ⟨u2, y2, n2, g2, h2, _⟩ := hf 2 _ rfl
    obtain rfl : c2 = u2 := Option.some.inj g2
    obtain ⟨s0, e0, _, _⟩ := DataW.trod_string Try.underlying9 h0
    obtain ⟨v, bs, e1, hb, hbl⟩ := rd_bytes Try.underlying44 Try.underlying5 (by kernel_rfl) (by kernel_rfl) h1 hz1
    obtain ⟨b2, e2, _⟩ := DataW.trod_bool Try.underlying4 h2
    obtain ⟨A, c, rfl⟩ := sl_len hb
    obtain rfl := (List.cons.inj e0).1
    obtain rfl := (List.cons.inj e1).1
    obtain rfl := (List.cons.inj e2).1
    exact ⟨⟨s0.data.toList, A, c, bs, b2⟩, rfl, hb, hbl⟩
theorem pairs_of {W : World} : ∀ (l : List Pm) (ys : List Value), RowsL (PmR W) l ys → ys = l.flatMap prC ∧ ∀ x ∈ l, Bs W (fun b => b < W.heap.size) x.v x.b ∧ x.b.length ≤ 140737488351232
  | [], ys, h => ⟨h, fun _ h => by cases h⟩
  | x :: l, ys, h => by
    obtain ⟨c, ys', rfl, ⟨rfl, h1, h2⟩, h'⟩ := h
    obtain ⟨rfl, h3⟩ := pairs_of l ys' h'
    refine ⟨rfl, fun o ho => ?_⟩
    rcases List.mem_cons.1 ho with rfl | ho
    · exact ⟨h1, h2⟩
    · exact h3 o ho
end Go.Proofs.Ytgeldfgcicjidaa
