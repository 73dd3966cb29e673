/- The row of the law TxnAsks: for every input it returns true and leaves its arguments as they were. No condition on the input. -/
import Derived.Test.YtglcmlicfmmlpaaRows
import Derived.Test.YtglcmlicfmmlpaaTxnAsksLaw
import Derived.Test.YtglcmlicfmmlpaaTxnRead
import Derived.Test.YtglcmlicfmmlpaaTxnReadT
import Derived.SizedLaws
import Derived.JoinedOf
import Derived.Handed
namespace Go.Proofs.Ytglcmlicfmmlpaa.txnAsks
open Go.ChangeShapes Go.WideShapes Go.ChangeAt Go.RowKit Go.Deep

theorem own : ownKnob Try.prog.godebug = none := by kernel_rfl
theorem laid : laidOutB Try.prog = true := by kernel_rfl
theorem rec0 : Try.prog.readableRec 3 = true := by kernel_rfl
theorem lt0 : decide (3 < Try.prog.types.size) = true := by kernel_rfl
theorem rec2 : Try.prog.readableRec 22 = true := by kernel_rfl
theorem lt2 : decide (22 < Try.prog.types.size) = true := by kernel_rfl
theorem rec3 : Try.prog.readableRec 30 = true := by kernel_rfl
theorem lt3 : decide (30 < Try.prog.types.size) = true := by kernel_rfl
theorem rec4 : Try.prog.readableRec 35 = true := by kernel_rfl
theorem lt4 : decide (35 < Try.prog.types.size) = true := by kernel_rfl

set_option maxRecDepth 100000 in
theorem contract (H : Type) (enc : TypeId × Value → H) (W : World) (args : Array Value) (ds gs : List (DataW H)) (before : List MemPlace) (base : Nat)
    (hval : ∀ (j : Nat) t v, Try.f3.params[j]? = some t → args[j]? = some v → Value.okWide Try.prog W .any base t v)
    (hW : DataW.Whole enc Try.prog Try.f3.params.toList Rows.txnAsksSpec.vars false W args.toList ds gs before)
    (hz : (DataW.weightsEach Try.prog (Try.f3.params.toList ++ Rows.txnAsksSpec.plain.varTypes Try.prog) (ds ++ gs)).all (· ≤ reachBytes) = true) :
    Calls Try.prog 3 args W fun e W' => ∃ v, e = .returned v ∧ Rows.txnAsksSpec.post enc Try.prog Try.f3 false true false false W args v W' := by
  have hW' := hW
  obtain ⟨p, q, hA0, hV, rfl, hfz, hnd⟩ := hW
  have hA : DataW.TrodAll enc Try.prog W 0 (fun _ => true) true Try.f3.params.toList args.toList ds p := hA0
  rw [Try.params3] at hA hz hval
  obtain ⟨v0, vs0, d0, ds0, p0, q0, hargs, rfl, rfl, h0, r0⟩ := trodAll_cons hA
  obtain ⟨v1, vs1, d1, ds1, p1, q1, rfl, rfl, rfl, h1, r1⟩ := trodAll_cons r0
  obtain ⟨v2, vs2, d2, ds2, p2, q2, rfl, rfl, rfl, h2, r2⟩ := trodAll_cons r1
  obtain ⟨v3, vs3, d3, ds3, p3, q3, rfl, rfl, rfl, h3, r3⟩ := trodAll_cons r2
  obtain ⟨v4, vs4, d4, ds4, p4, q4, rfl, rfl, rfl, h4, r4⟩ := trodAll_cons r3
  obtain ⟨rfl, rfl, rfl⟩ := trodAll_nil r4
  obtain rfl : args = #[v0, v1, v2, v3, v4] := by cases args; simp_all
  obtain ⟨rfl, rfl⟩ := trodVars_none hV
  have hz2 : Sized Try.prog 22 d2 := Sized.of_each hz (j := 2) (by simp) (by simp)
  have hz3 : Sized Try.prog 30 d3 := Sized.of_each hz (j := 3) (by simp) (by simp)
  have hz4 : Sized Try.prog 35 d4 := Sized.of_each hz (j := 4) (by simp) (by simp)
  obtain ⟨m0, rfl⟩ := okWide_int' Try.underlying3 (hval 0 _ v0 rfl rfl)
  obtain ⟨m1, rfl⟩ := okWide_int' Try.underlying3 (hval 1 _ v1 rfl rfl)
  obtain ⟨A2, n2, c2, rfl⟩ := okWide_slice Try.underlying22 (hval 2 _ v2 rfl rfl)
  obtain ⟨cs3, rfl, _⟩ := okWide_struct Try.underlying30 (hval 3 _ v3 rfl rfl)
  obtain ⟨cs4, rfl, _⟩ := okWide_struct Try.underlying35 (hval 4 _ v4 rfl rfl)
  obtain ⟨fuel0, hf0⟩ := h0
  obtain ⟨fuel1, hf1⟩ := h1
  obtain ⟨fuel2, hf2⟩ := h2
  obtain ⟨fuel3, hf3⟩ := h3
  obtain ⟨fuel4, hf4⟩ := h4
  obtain ⟨w2, l2, y2, e2, hsl2, hrows2, _⟩ := rd_rows (α := Txn) (R := TxnR) (k := 7) Try.underlying22 (by kernel_rfl) (by omega) (fun n cs y hy hyz => rd_txn n cs y hy hyz) hf2 hz2
  obtain rfl : Value.slice A2 n2 c2 = w2 := (List.cons.inj e2).1
  obtain ⟨ga, ca, va, ba, ea, ha, hba⟩ := rd_ask _ _ _ hf3 hz3
  obtain rfl : cs3 = (askV ga ca va).cells := by rw [← Array.toList_inj]; exact ea
  obtain ⟨why, wait, rw_, ra, vr, L, xs, vd, bd, er, q1, q2, q3, q4, q5⟩ := rd_result _ _ _ hf4 hz4
  obtain rfl : cs4 = (resV why wait rw_ ra vr vd).cells := by rw [← Array.toList_inj]; exact er
  refine (txnAsks_law m0 m1 _ l2 y2 ga ca va ba why wait rw_ ra L.length xs vr vd bd W hsl2 hrows2 ha (by omega) q1 (rows_one q2) (by have : reachBytes = 140737488351232 := rfl; omega) q4 (by omega)).mono fun e W' ⟨he, hf⟩ => ?_
  exact ⟨_, he, law_post hW' rfl rfl rfl Try.underlying4 laid (by
    rw [Try.params3]
    intro t ht
    simp at ht
    rcases ht with rfl | rfl | rfl | rfl
    · exact ⟨rec0, of_decide_eq_true lt0⟩
    · exact ⟨rec2, of_decide_eq_true lt2⟩
    · exact ⟨rec3, of_decide_eq_true lt3⟩
    · exact ⟨rec4, of_decide_eq_true lt4⟩) hf⟩

set_option maxRecDepth 100000 in
theorem lifted (os : Os) (started : os.Started) (H : Type) (enc : TypeId × Value → H) :
    ReturnsInHanded {} Try.checked os 3 .any (Rows.txnAsksSpec.pre6 enc Try.prog Try.f3 Rows.txnAsksRow.domain false) (Rows.txnAsksSpec.post enc Try.prog Try.f3 false true false false) := by
  refine returnsInHanded_of_change_sized (C := Try.checked) own started (by kernel_rfl) Try.func3
    (ChangeSpec.witness6 (enc := enc) (C := Try.checked) false ⟨#[], #[.int .i64 0, .int .i64 0, .slice none 0 0, .agg #[.int .i64 0, .int .i64 0, .int .i64 0, .string ⟨#[]⟩, .string ⟨#[]⟩, .int .i64 0, .string ⟨#[]⟩, .int .i64 0, .int .i64 0, .string ⟨#[]⟩, .string ⟨#[]⟩, .int .i64 0, .int .i64 0, .int .i64 0, .int .i64 0, .int .i64 0, .bool false, .slice none 0 0], .agg #[.int .i64 0, .bool false, .int .i64 0, .int .i64 0, .slice none 0 0, .slice none 0 0]], []⟩ 8 (by kernel_rfl) (by kernel_rfl) (by kernel_rfl) (by kernel_rfl)) ?_
  intro W base args ds gs before hval hW _ hz _
  exact contract H enc W args ds gs before base hval hW hz

theorem proved : Rows.TxnAsksSaid :=
  OpenClaim.holds_of_wide 3 Try.f3 rfl rfl rfl rfl rfl rfl rfl ⟨rfl, rfl, rfl, rfl, rfl⟩ rfl rfl rfl rfl rfl (by kernel_rfl) Try.func3 (by kernel_rfl)
    (of_decide_eq_true (by kernel_rfl)) (by unfold Func.isWrapper; first | (rw [if_pos (by decide +kernel)]; kernel_rfl) | (rw [if_neg (by decide +kernel)]; exact ⟨rfl, rfl⟩))
    (fun os started H enc _ => lifted os started H enc)
end Go.Proofs.Ytglcmlicfmmlpaa.txnAsks
