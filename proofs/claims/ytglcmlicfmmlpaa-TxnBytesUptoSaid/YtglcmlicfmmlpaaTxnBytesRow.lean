/- The row of the law TxnBytes, where what it reads is of bulk at most 1048576: it returns true and leaves its arguments as they were. -/
import Derived.Test.YtglcmlicfmmlpaaRows
import Derived.Test.YtglcmlicfmmlpaaC21
import Derived.Test.YtglcmlicfmmlpaaTxnBytesRead
import Derived.SizedLaws
import Derived.JoinedOf
import Derived.Handed
import Derived.Deep.CondSized
namespace Go.Proofs.Ytglcmlicfmmlpaa.txnBytes
open Go.ChangeShapes Go.WideShapes Go.ChangeAt Go.RowKit Go.Deep

theorem own : ownKnob Try.prog.godebug = none := by kernel_rfl
theorem laid : laidOutB Try.prog = true := by kernel_rfl
theorem rec0 : Try.prog.readableRec 30 = true := by kernel_rfl
theorem lt0 : decide (30 < Try.prog.types.size) = true := by kernel_rfl
theorem rec1 : Try.prog.readableRec 35 = true := by kernel_rfl
theorem lt1 : decide (35 < Try.prog.types.size) = true := by kernel_rfl
theorem rec2 : Try.prog.readableRec 26 = true := by kernel_rfl
theorem lt2 : decide (26 < Try.prog.types.size) = true := by kernel_rfl

set_option maxRecDepth 100000 in
theorem contract (H : Type) (enc : TypeId × Value → H) (W : World) (args : Array Value) (ds gs : List (DataW H)) (before : List MemPlace) (base : Nat)
    (hval : ∀ (j : Nat) t v, Try.f8.params[j]? = some t → args[j]? = some v → Value.okWide Try.prog W .any base t v)
    (hW : DataW.Whole enc Try.prog Try.f8.params.toList Rows.txnBytesSpec.vars false W args.toList ds gs before)
    (hz : (DataW.weightsEach Try.prog (Try.f8.params.toList ++ Rows.txnBytesSpec.plain.varTypes Try.prog) (ds ++ gs)).all (· ≤ reachBytes) = true) (hk : Rows.uptoSmall H (ds ++ gs) = true) :
    Calls Try.prog 8 args W fun e W' => ∃ v, e = .returned v ∧ Rows.txnBytesSpec.post enc Try.prog Try.f8 false true false false W args v W' := by
  have hW' := hW
  obtain ⟨p, q, hA0, hV, rfl, hfz, hnd⟩ := hW
  have hA : DataW.TrodAll enc Try.prog W 0 (fun _ => true) true Try.f8.params.toList args.toList ds p := hA0
  rw [Try.params8] at hA hz hval
  obtain ⟨v0, vs0, d0, ds0, p0, q0, hargs, rfl, rfl, h0, r0⟩ := trodAll_cons hA
  obtain ⟨v1, vs1, d1, ds1, p1, q1, rfl, rfl, rfl, h1, r1⟩ := trodAll_cons r0
  obtain ⟨v2, vs2, d2, ds2, p2, q2, rfl, rfl, rfl, h2, r2⟩ := trodAll_cons r1
  obtain ⟨rfl, rfl, rfl⟩ := trodAll_nil r2
  obtain rfl : args = #[v0, v1, v2] := by cases args; simp_all
  obtain ⟨rfl, rfl⟩ := trodVars_none hV
  have hk' : Rows.uptoBulkAll [d0, d1, d2] ≤ 1048576 := of_decide_eq_true hk
  simp only [Rows.uptoBulkAll] at hk'
  have hz0 : Fit Try.prog 1048576 30 d0 := ⟨Sized.of_each hz (j := 0) (by simp) (by simp), by omega⟩
  have hz1 : Fit Try.prog 1048576 35 d1 := ⟨Sized.of_each hz (j := 1) (by simp) (by simp), by omega⟩
  have hz2 : Fit Try.prog 1048576 26 d2 := ⟨Sized.of_each hz (j := 2) (by simp) (by simp), by omega⟩
  obtain ⟨cs0, rfl, _⟩ := okWide_struct Try.underlying30 (hval 0 _ v0 rfl rfl)
  obtain ⟨cs1, rfl, _⟩ := okWide_struct Try.underlying35 (hval 1 _ v1 rfl rfl)
  obtain ⟨A2, n2, c2, rfl⟩ := okWide_slice Try.underlying26 (hval 2 _ v2 rfl rfl)
  obtain ⟨fuel0, hf0⟩ := h0
  obtain ⟨fuel1, hf1⟩ := h1
  obtain ⟨fuel2, hf2⟩ := h2
  obtain ⟨a, ea, ha, hba, hca⟩ := rd2_gask (by decide) _ _ _ hf0 hz0
  obtain rfl : cs0 = a.L.toArray := by rw [← Array.toList_inj]; exact ea
  obtain ⟨r, er, hr, hbr, hsr, hnr⟩ := rd2_gres (by decide) _ _ _ hf1 hz1
  obtain rfl : cs1 = r.L.toArray := by rw [← Array.toList_inj]; exact er
  obtain ⟨A, c, bs, eb, hbb, hlb, _⟩ := rd2_bytes Try.underlying26 Try.underlying5 (by kernel_rfl) (by kernel_rfl) hf2 hz2
  obtain hv := (List.cons.inj eb).1
  rw [hv]
  rw [hv] at hW'
  refine (txnBytes_law a r _ bs W _ hba hbr hsr hbb ha hr (by omega) (by omega) hlb).mono fun e W' ⟨he, hf⟩ => ?_
  exact ⟨_, he, law_post hW' rfl rfl rfl Try.underlying4 laid (by
    rw [Try.params8]
    intro t ht
    simp at ht
    rcases ht with rfl | rfl | rfl
    · exact ⟨rec0, of_decide_eq_true lt0⟩
    · exact ⟨rec1, of_decide_eq_true lt1⟩
    · exact ⟨rec2, of_decide_eq_true lt2⟩) hf⟩

set_option maxRecDepth 100000 in
theorem lifted (os : Os) (started : os.Started) (H : Type) (enc : TypeId × Value → H) (F : Stop.Interp) :
    ReturnsInHanded {} Try.checked os 8 .any ((Rows.OpenSpec.upto Rows.txnBytesSpec).pre6 enc Try.prog Try.f8 Rows.txnBytesUptoRow.domain false) (((Rows.OpenSpec.upto Rows.txnBytesSpec).at F).post enc Try.prog Try.f8 false true false false) := by
  refine returnsInHanded_of_cond_sized (C := Try.checked) (s := Rows.OpenSpec.upto Rows.txnBytesSpec) (k := Rows.uptoSmall) rfl own started (by kernel_rfl) Try.func8
    (OpenSpec.witness (enc := enc) (C := Try.checked) (s := Rows.OpenSpec.upto Rows.txnBytesSpec) (k := Rows.uptoSmall) rfl false ⟨#[], #[.agg #[.int .i64 0, .int .i64 0, .int .i64 0, .string ⟨#[]⟩, .string ⟨#[]⟩, .int .i64 0, .string ⟨#[]⟩, .int .i64 0, .int .i64 0, .string ⟨#[]⟩, .string ⟨#[]⟩, .int .i64 0, .int .i64 0, .int .i64 0, .int .i64 0, .int .i64 0, .bool false, .slice none 0 0], .agg #[.int .i64 0, .bool false, .int .i64 0, .int .i64 0, .slice none 0 0, .slice none 0 0], .slice none 0 0], []⟩ 8 (by kernel_rfl) (by kernel_rfl) (by kernel_rfl)
      (x := ([.agg [.lit (.int .i64 0), .agg [.lit (.int .i64 0), .agg [.lit (.int .i64 0), .lit (.string []), .lit (.string []), .lit (.int .i64 0), .lit (.string []), .lit (.int .i64 0), .lit (.int .i64 0)], .lit (.string []), .lit (.string []), .lit (.int .i64 0), .lit (.int .i64 0), .lit (.int .i64 0), .lit (.int .i64 0), .lit (.int .i64 0), .lit (.bool false), .nil]], .agg [.lit (.int .i64 0), .lit (.bool false), .agg [.lit (.int .i64 0), .lit (.int .i64 0), .nil], .nil], .nil], [], [])) (by kernel_rfl) rfl (by kernel_rfl)) ?_
  intro W base args ds gs before hval hW _ hk hz _
  exact contract H enc W args ds gs before base hval hW hz hk

theorem proved : Rows.TxnBytesUptoSaid :=
  OpenClaim.holds_of_cond 8 Try.f8 rfl rfl rfl rfl rfl rfl rfl ⟨rfl, rfl, rfl, rfl, rfl⟩ rfl rfl rfl rfl rfl (by kernel_rfl) Try.func8 (by kernel_rfl)
    (of_decide_eq_true (by kernel_rfl)) (by unfold Func.isWrapper; first | (rw [if_pos (by decide +kernel)]; kernel_rfl) | (rw [if_neg (by decide +kernel)]; exact ⟨rfl, rfl⟩))
    (fun os started H enc _ F => lifted os started H enc F)
end Go.Proofs.Ytglcmlicfmmlpaa.txnBytes
