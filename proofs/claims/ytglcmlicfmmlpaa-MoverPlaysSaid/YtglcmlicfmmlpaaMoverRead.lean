/- How the arguments of the mover's laws read. -/
import Derived.Test.YtglcmlicfmmlpaaTxnRead
import Derived.Test.YtglcmlicfmmlpaaMoverOp
import Derived.Test.YtglcmlicfmmlpaaMover1
namespace Go.Proofs.Ytglcmlicfmmlpaa
open Go.ChangeShapes Go.WideShapes Go.ChangeAt Go.RowKit Go.Deep

set_option maxRecDepth 100000 in
theorem rd_moving {H : Type} {enc : TypeId × Value → H} {W : World} (n : Nat) (cs : List Value) (y : DataW H × List MemPlace) (h : DataW.trod enc Try.prog W 0 (fun _ => true) true n 70 cs = some y)
    (hz : Sized Try.prog 70 y.1) : ∃ x : Mv, cs = (movV x).cells.toList := by
  obtain ⟨hl, hf⟩ := rd_field Try.underlying70 h hz
  rw [show Try.prog.cellsOf 70 = 6 from by kernel_rfl] at hl
  match cs, hl with
  | [c0, c1, c2, c3, c4, c5], _ =>
    obtain ⟨u0, y0, n0, g0, h0, hz0⟩ := rd_one (hf 0 _ rfl) (by kernel_rfl) (by simp)
    obtain rfl : c0 = u0 := Option.some.inj g0
    obtain ⟨k0, e0, _, _⟩ := DataW.trod_int Try.underlying3 h0
    obtain rfl := (List.cons.inj e0).1
    obtain ⟨u1, y1, n1, g1, h1, hz1⟩ := rd_one (hf 1 _ rfl) (by kernel_rfl) (by simp)
    obtain rfl : c1 = u1 := Option.some.inj g1
    obtain ⟨k1, e1, _, _⟩ := DataW.trod_int Try.underlying3 h1
    obtain rfl := (List.cons.inj e1).1
    obtain ⟨u2, y2, n2, g2, h2, hz2⟩ := rd_one (hf 2 _ rfl) (by kernel_rfl) (by simp)
    obtain rfl : c2 = u2 := Option.some.inj g2
    obtain ⟨k2, e2, _, _⟩ := DataW.trod_int Try.underlying3 h2
    obtain rfl := (List.cons.inj e2).1
    obtain ⟨u3, y3, n3, g3, h3, hz3⟩ := rd_one (hf 3 _ rfl) (by kernel_rfl) (by simp)
    obtain rfl : c3 = u3 := Option.some.inj g3
    obtain ⟨k3, e3, _, _⟩ := DataW.trod_int Try.underlying2 h3
    obtain rfl := (List.cons.inj e3).1
    obtain ⟨u4, y4, n4, g4, h4, hz4⟩ := rd_one (hf 4 _ rfl) (by kernel_rfl) (by simp)
    obtain rfl : c4 = u4 := Option.some.inj g4
    obtain ⟨k4, e4, _, _⟩ := DataW.trod_int Try.underlying3 h4
    obtain rfl := (List.cons.inj e4).1
    obtain ⟨u5, y5, n5, g5, h5, hz5⟩ := rd_one (hf 5 _ rfl) (by kernel_rfl) (by simp)
    obtain rfl : c5 = u5 := Option.some.inj g5
    obtain ⟨k5, e5, _, _⟩ := DataW.trod_int Try.underlying2 h5
    obtain rfl := (List.cons.inj e5).1
    exact ⟨⟨k0, k1, k2, k3, k4, k5⟩, rfl⟩
/-- A call of the mover's laws: its cells. -/
def MopR (W : World) (cs : List Value) : Prop := ∃ (kd : Int) (x : Mv) (ga : Int) (c : Cmd) (va : Value) (ba : List UInt8) (why : Int) (wait : Bool) (rw_ ra : Int) (vr vd : Value) (bd : List UInt8), cs = (mopC kd x ga c va why wait rw_ ra vr vd).toList ∧ (∃ A n k, vr = .slice A n k) ∧ BsW W va ba ∧ BsW W vd bd
set_option maxRecDepth 100000 in
theorem rd_mop {H : Type} {enc : TypeId × Value → H} {W : World} (n : Nat) (cs : List Value) (y : DataW H × List MemPlace) (h : DataW.trod enc Try.prog W 0 (fun _ => true) true n 72 cs = some y)
    (hz : Sized Try.prog 72 y.1) : MopR W cs := by
  obtain ⟨hl, hf⟩ := rd_field Try.underlying72 h hz
  rw [show Try.prog.cellsOf 72 = 31 from by kernel_rfl] at hl
  match cs, hl with
  | [c0, c1, c2, c3, c4, c5, c6, c7, c8, c9, c10, c11, c12, c13, c14, c15, c16, c17, c18, c19, c20, c21, c22, c23, c24, c25, c26, c27, c28, c29, c30], _ =>
    obtain ⟨u0, y0, n0, g0, h0, hz0⟩ := rd_one (hf 0 _ rfl) (by kernel_rfl) (by simp)
    obtain rfl : c0 = u0 := Option.some.inj g0
    obtain ⟨kd, e0, _, _⟩ := DataW.trod_int Try.underlying3 h0
    obtain rfl := (List.cons.inj e0).1
    obtain ⟨y1, n1, h1, hz1⟩ := rd_sub (hf 1 _ rfl) (T := 70) (m := 6) (sub := [c1, c2, c3, c4, c5, c6]) rfl (by kernel_rfl) rfl
    obtain ⟨x, e1⟩ := rd_moving _ _ _ h1 hz1
    obtain ⟨y2, n2, h2, hz2⟩ := rd_sub (hf 2 _ rfl) (T := 30) (m := 18) (sub := [c7, c8, c9, c10, c11, c12, c13, c14, c15, c16, c17, c18, c19, c20, c21, c22, c23, c24]) rfl (by kernel_rfl) rfl
    obtain ⟨ga, c, va, ba, e2, ha⟩ := rd_ask _ _ _ h2 hz2
    obtain ⟨y3, n3, h3, hz3⟩ := rd_sub (hf 3 _ rfl) (T := 35) (m := 6) (sub := [c25, c26, c27, c28, c29, c30]) rfl (by kernel_rfl) rfl
    obtain ⟨why, wait, rw_, ra, vr, L, xs, vd, bd, e3, q1, q2, q3, q4⟩ := rd_result _ _ _ h3 hz3
    simp only [List.cons.injEq] at e1 e3
    simp only [cmdL, List.cons.injEq] at e2
    obtain ⟨rfl, rfl, rfl, rfl, rfl, rfl, _⟩ := e1
    obtain ⟨rfl, rfl, rfl, rfl, rfl, rfl, rfl, rfl, rfl, rfl, rfl, rfl, rfl, rfl, rfl, rfl, rfl, rfl, _⟩ := e2
    obtain ⟨rfl, rfl, rfl, rfl, rfl, rfl, _⟩ := e3
    exact ⟨kd, x, ga, c, _, ba, why, wait, rw_, ra, _, _, bd, rfl, sl_len q1 |>.elim (fun A h => h.elim (fun k h => ⟨A, _, k, h⟩)), ha, q4⟩
end Go.Proofs.Ytglcmlicfmmlpaa
