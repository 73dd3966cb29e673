/- How transfers read. -/
import Derived.Test.YtglcmlicfmmlpaaTxnRead
namespace Go.Proofs.Ytglcmlicfmmlpaa
open Go.ChangeShapes Go.WideShapes Go.ChangeAt Go.RowKit Go.Deep

theorem rd_txn {H : Type} {enc : TypeId × Value → H} {W : World} (n : Nat) (cs : List Value) (y : DataW H × List MemPlace) (h : DataW.trod enc Try.prog W 0 (fun _ => true) true n 39 cs = some y)
    (hz : Sized Try.prog 39 y.1) : ∃ a : Txn, TxnR a cs := by
  obtain ⟨hl, hf⟩ := rd_struct Try.underlying39 (by kernel_rfl) (by kernel_rfl) h hz
  match cs, hl with
  | [c0, c1, c2, c3, c4, c5, c6], _ =>
    obtain ⟨u0, y0, n0, g0, h0, _⟩ := hf 0 _ rfl
    obtain rfl : c0 = u0 := Option.some.inj g0
    obtain ⟨u1, y1, n1, g1, h1, _⟩ := hf 1 _ rfl
    obtain rfl : c1 = u1 := Option.some.inj g1
    obtain ⟨u2, y2, n2, g2, h2, _⟩ := hf 2 _ rfl
    obtain rfl : c2 = u2 := Option.some.inj g2
    obtain ⟨u3, y3, n3, g3, h3, _⟩ := hf 3 _ rfl
    obtain rfl : c3 = u3 := Option.some.inj g3
    obtain ⟨u4, y4, n4, g4, h4, _⟩ := hf 4 _ rfl
    obtain rfl : c4 = u4 := Option.some.inj g4
    obtain ⟨u5, y5, n5, g5, h5, _⟩ := hf 5 _ rfl
    obtain rfl : c5 = u5 := Option.some.inj g5
    obtain ⟨u6, y6, n6, g6, h6, _⟩ := hf 6 _ rfl
    obtain rfl : c6 = u6 := Option.some.inj g6
    obtain ⟨s0, e0, _, _⟩ := DataW.trod_string Try.underlying9 h0
    obtain ⟨s1, e1, _, _⟩ := DataW.trod_string Try.underlying9 h1
    obtain ⟨s2, e2, _, _⟩ := DataW.trod_string Try.underlying9 h2
    obtain ⟨s3, e3, _, _⟩ := DataW.trod_string Try.underlying9 h3
    obtain ⟨k4, e4, _, _⟩ := DataW.trod_int Try.underlying2 h4
    obtain ⟨k5, e5, _⟩ := DataW.trod_bool Try.underlying4 h5
    obtain ⟨k6, e6, _, _⟩ := DataW.trod_int Try.underlying25 h6
    obtain rfl := (List.cons.inj e0).1
    obtain rfl := (List.cons.inj e1).1
    obtain rfl := (List.cons.inj e2).1
    obtain rfl := (List.cons.inj e3).1
    obtain rfl := (List.cons.inj e4).1
    obtain rfl := (List.cons.inj e5).1
    obtain rfl := (List.cons.inj e6).1
    exact ⟨⟨s0, s1, s2, s3, k4, k5, k6⟩, rfl⟩

theorem rows_one {L : List (ByteArray × Int)} {xs : List Value} (h : RowsL RowR L xs) : ∀ u ∈ xs, u.oneCell' = true :=
  h.all (p := fun u => u.oneCell' = true) (fun r c hc u hu => by
    cases hc
    simp at hu
    rcases hu with rfl | rfl <;> rfl)
end Go.Proofs.Ytglcmlicfmmlpaa
