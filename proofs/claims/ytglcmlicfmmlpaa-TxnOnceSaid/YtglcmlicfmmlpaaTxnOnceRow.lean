/- The row of the law TxnOnce: for every input it returns true and leaves its arguments as they were. No condition on the input. The law's walk (TxnOnce) is brought to the statement here. -/
import Derived.Test.YtglcmlicfmmlpaaRows
import Derived.Test.YtglcmlicfmmlpaaTxnOnce
import Derived.Test.YtglcmlicfmmlpaaArgs
import Derived.SizedLaws
import Derived.JoinedOf
import Derived.Handed
namespace Go.Proofs.Ytglcmlicfmmlpaa.txnOnce
open Go.ChangeShapes Go.WideShapes Go.ChangeAt Go.RowKit Go.Deep

theorem own : ownKnob Try.prog.godebug = none := by kernel_rfl
theorem laid : laidOutB Try.prog = true := by kernel_rfl
theorem rec0 : Try.prog.readableRec 3 = true := by kernel_rfl
theorem lt0 : decide (3 < Try.prog.types.size) = true := by kernel_rfl
theorem rec2 : Try.prog.readableRec 22 = true := by kernel_rfl
theorem lt2 : decide (22 < Try.prog.types.size) = true := by kernel_rfl
theorem rec3 : Try.prog.readableRec 60 = true := by kernel_rfl
theorem lt3 : decide (60 < Try.prog.types.size) = true := by kernel_rfl

theorem rd_txn {H : Type} {enc : TypeId × Value → H} {W : World} (n : Nat) (cs : List Value) (y : DataW H × List MemPlace) (h : DataW.trod enc Try.prog W 0 (fun _ => true) true n 39 cs = some y)
    (hz : Sized Try.prog 39 y.1) : ∃ a : Txn, TxnR a cs := by
  obtain ⟨hl, hf⟩ := rd_struct Try.underlying39 (by kernel_rfl) (by kernel_rfl) h hz
  match cs, hl with
  | [c0, c1, c2, c3, c4, c5, c6], _ =>
    obtain ⟨u0, y0, n0, g0, h0, _⟩ := hf 0 _ rfl
    obtain rfl : c0 = u0 := Option.some.inj g0
    obtain ⟨u1, y1, n1, g1, h1, _⟩ := hf 1 _ rfl
    obtain rfl : c1 = u1 := Option.some.inj g1
    obtain ⟨u2, y2, n2, g2, h2, _⟩ := hf 2 _ rfl
    obtain rfl : c2 = u2 := Option.some.inj g2
    obtain ⟨u3, y3, n3, g3, h3, _⟩ := hf 3 _ rfl
    obtain rfl : c3 = u3 := Option.some.inj g3
    obtain ⟨u4, y4, n4, g4, h4, _⟩ := hf 4 _ rfl
    obtain rfl : c4 = u4 := Option.some.inj g4
    obtain ⟨u5, y5, n5, g5, h5, _⟩ := hf 5 _ rfl
    obtain rfl : c5 = u5 := Option.some.inj g5
    obtain ⟨u6, y6, n6, g6, h6, _⟩ := hf 6 _ rfl
    obtain rfl : c6 = u6 := Option.some.inj g6
    obtain ⟨s0, e0, _, _⟩ := DataW.trod_string Try.underlying9 h0
    obtain ⟨s1, e1, _, _⟩ := DataW.trod_string Try.underlying9 h1
    obtain ⟨s2, e2, _, _⟩ := DataW.trod_string Try.underlying9 h2
    obtain ⟨s3, e3, _, _⟩ := DataW.trod_string Try.underlying9 h3
    obtain ⟨k4, e4, _, _⟩ := DataW.trod_int Try.underlying2 h4
    obtain ⟨k5, e5, _⟩ := DataW.trod_bool Try.underlying4 h5
    obtain ⟨k6, e6, _, _⟩ := DataW.trod_int Try.underlying25 h6
    obtain rfl := (List.cons.inj e0).1
    obtain rfl := (List.cons.inj e1).1
    obtain rfl := (List.cons.inj e2).1
    obtain rfl := (List.cons.inj e3).1
    obtain rfl := (List.cons.inj e4).1
    obtain rfl := (List.cons.inj e5).1
    obtain rfl := (List.cons.inj e6).1
    exact ⟨⟨s0, s1, s2, s3, k4, k5, k6⟩, rfl⟩

set_option maxRecDepth 100000 in
theorem contract (H : Type) (enc : TypeId × Value → H) (W : World) (args : Array Value) (ds gs : List (DataW H)) (before : List MemPlace) (base : Nat)
    (hval : ∀ (j : Nat) t v, Try.f4.params[j]? = some t → args[j]? = some v → Value.okWide Try.prog W .any base t v)
    (hW : DataW.Whole enc Try.prog Try.f4.params.toList Rows.txnOnceSpec.vars false W args.toList ds gs before)
    (hz : (DataW.weightsEach Try.prog (Try.f4.params.toList ++ Rows.txnOnceSpec.plain.varTypes Try.prog) (ds ++ gs)).all (· ≤ reachBytes) = true) :
    Calls Try.prog 4 args W fun e W' => ∃ v, e = .returned v ∧ Rows.txnOnceSpec.post enc Try.prog Try.f4 false true false false W args v W' := by
  have hW' := hW
  obtain ⟨p, q, hA0, hV, rfl, hfz, hnd⟩ := hW
  have hA : DataW.TrodAll enc Try.prog W 0 (fun _ => true) true Try.f4.params.toList args.toList ds p := hA0
  rw [Try.params4] at hA hz hval
  obtain ⟨v0, vs0, d0, ds0, p0, q0, hargs, rfl, rfl, h0, r0⟩ := trodAll_cons hA
  obtain ⟨v1, vs1, d1, ds1, p1, q1, rfl, rfl, rfl, h1, r1⟩ := trodAll_cons r0
  obtain ⟨v2, vs2, d2, ds2, p2, q2, rfl, rfl, rfl, h2, r2⟩ := trodAll_cons r1
  obtain ⟨v3, vs3, d3, ds3, p3, q3, rfl, rfl, rfl, h3, r3⟩ := trodAll_cons r2
  obtain ⟨rfl, rfl, rfl⟩ := trodAll_nil r3
  obtain rfl : args = #[v0, v1, v2, v3] := by cases args; simp_all
  obtain ⟨rfl, rfl⟩ := trodVars_none hV
  have hz2 : Sized Try.prog 22 d2 := Sized.of_each hz (j := 2) (by simp) (by simp)
  have hz3 : Sized Try.prog 60 d3 := Sized.of_each hz (j := 3) (by simp) (by simp)
  obtain ⟨m0, rfl⟩ := okWide_int' Try.underlying3 (hval 0 _ v0 rfl rfl)
  obtain ⟨m1, rfl⟩ := okWide_int' Try.underlying3 (hval 1 _ v1 rfl rfl)
  obtain ⟨A2, n2, c2, rfl⟩ := okWide_slice Try.underlying22 (hval 2 _ v2 rfl rfl)
  obtain ⟨A3, n3, c3, rfl⟩ := okWide_slice Try.underlying60 (hval 3 _ v3 rfl rfl)
  obtain ⟨fuel0, hf0⟩ := h0
  obtain ⟨fuel1, hf1⟩ := h1
  obtain ⟨fuel2, hf2⟩ := h2
  obtain ⟨fuel3, hf3⟩ := h3
  obtain ⟨w2, l2, y2, e2, hsl2, hrows2, _⟩ := rd_rows (α := Txn) (R := TxnR) (k := 7) Try.underlying22 (by kernel_rfl) (by omega) (fun n cs y hy hyz => rd_txn n cs y hy hyz) hf2 hz2
  obtain ⟨w3, l3, y3, e3, hsl3, hrows3, _⟩ := rd_rows (α := Int) (R := fun y c => c = [Value.int .i64 y]) (k := 1) Try.underlying60 (by kernel_rfl) (by omega) (fun n cs y hy hyz => by
    obtain ⟨a, e, _, _⟩ := DataW.trod_int Try.underlying3 hy
    exact ⟨a, e⟩) hf3 hz3
  obtain rfl : Value.slice A2 n2 c2 = w2 := (List.cons.inj e2).1
  obtain rfl : Value.slice A3 n3 c3 = w3 := (List.cons.inj e3).1
  refine (txnOnce_any m0 m1 _ _ l2 y2 l3 y3 W hsl2 hrows2 hsl3 hrows3).mono fun e W' ⟨he, hf⟩ => ?_
  exact ⟨_, he, law_post hW' rfl rfl rfl Try.underlying4 laid (by
    rw [Try.params4]
    intro t ht
    simp at ht
    rcases ht with rfl | rfl | rfl
    · exact ⟨rec0, of_decide_eq_true lt0⟩
    · exact ⟨rec2, of_decide_eq_true lt2⟩
    · exact ⟨rec3, of_decide_eq_true lt3⟩) hf⟩

set_option maxRecDepth 100000 in
theorem lifted (os : Os) (started : os.Started) (H : Type) (enc : TypeId × Value → H) :
    ReturnsInHanded {} Try.checked os 4 .any (Rows.txnOnceSpec.pre6 enc Try.prog Try.f4 Rows.txnOnceRow.domain false) (Rows.txnOnceSpec.post enc Try.prog Try.f4 false true false false) := by
  refine returnsInHanded_of_change_sized (C := Try.checked) own started (by kernel_rfl) Try.func4
    (ChangeSpec.witness6 (enc := enc) (C := Try.checked) false ⟨#[], #[.int .i64 0, .int .i64 0, .slice none 0 0, .slice none 0 0], []⟩ 8 (by kernel_rfl) (by kernel_rfl) (by kernel_rfl) (by kernel_rfl)) ?_
  intro W base args ds gs before hval hW _ hz _
  exact contract H enc W args ds gs before base hval hW hz

theorem proved : Rows.TxnOnceSaid :=
  OpenClaim.holds_of_wide 4 Try.f4 rfl rfl rfl rfl rfl rfl rfl ⟨rfl, rfl, rfl, rfl, rfl⟩ rfl rfl rfl rfl rfl (by kernel_rfl) Try.func4 (by kernel_rfl)
    (of_decide_eq_true (by kernel_rfl)) (by unfold Func.isWrapper; first | (rw [if_pos (by decide +kernel)]; kernel_rfl) | (rw [if_neg (by decide +kernel)]; exact ⟨rfl, rfl⟩))
    (fun os started H enc _ => lifted os started H enc)
end Go.Proofs.Ytglcmlicfmmlpaa.txnOnce
