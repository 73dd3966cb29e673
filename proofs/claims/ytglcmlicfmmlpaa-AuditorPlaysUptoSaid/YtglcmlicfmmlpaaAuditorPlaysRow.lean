/- The row of the law AuditorPlays, where what it reads is of bulk at most 1048576: it returns true and leaves its arguments as they were. -/
import Derived.Test.YtglcmlicfmmlpaaRows
import Derived.Test.YtglcmlicfmmlpaaA22
import Derived.Test.YtglcmlicfmmlpaaAudPlaysRead
import Derived.SizedLaws
import Derived.JoinedOf
import Derived.Handed
import Derived.Deep.CondSized
namespace Go.Proofs.Ytglcmlicfmmlpaa.auditorPlays
open Go.ChangeShapes Go.WideShapes Go.ChangeAt Go.RowKit Go.Deep

theorem own : ownKnob Try.prog.godebug = none := by kernel_rfl
theorem laid : laidOutB Try.prog = true := by kernel_rfl
theorem rec0 : Try.prog.readableRec 3 = true := by kernel_rfl
theorem lt0 : decide (3 < Try.prog.types.size) = true := by kernel_rfl
theorem rec1 : Try.prog.readableRec 110 = true := by kernel_rfl
theorem lt1 : decide (110 < Try.prog.types.size) = true := by kernel_rfl

set_option maxRecDepth 100000 in
theorem contract (H : Type) (enc : TypeId × Value → H) (W : World) (args : Array Value) (ds gs : List (DataW H)) (before : List MemPlace) (base : Nat)
    (hval : ∀ (j : Nat) t v, Try.f9.params[j]? = some t → args[j]? = some v → Value.okWide Try.prog W .any base t v)
    (hW : DataW.Whole enc Try.prog Try.f9.params.toList Rows.auditorPlaysSpec.vars false W args.toList ds gs before)
    (hz : (DataW.weightsEach Try.prog (Try.f9.params.toList ++ Rows.auditorPlaysSpec.plain.varTypes Try.prog) (ds ++ gs)).all (· ≤ reachBytes) = true) (hk : Rows.uptoSmall H (ds ++ gs) = true) :
    Calls Try.prog 9 args W fun e W' => ∃ v, e = .returned v ∧ Rows.auditorPlaysSpec.post enc Try.prog Try.f9 false true false false W args v W' := by
  have hW' := hW
  obtain ⟨p, q, hA0, hV, rfl, hfz, hnd⟩ := hW
  have hA : DataW.TrodAll enc Try.prog W 0 (fun _ => true) true Try.f9.params.toList args.toList ds p := hA0
  rw [Try.params9] at hA hz hval
  obtain ⟨v0, vs0, d0, ds0, p0, q0, hargs, rfl, rfl, h0, r0⟩ := trodAll_cons hA
  obtain ⟨v1, vs1, d1, ds1, p1, q1, rfl, rfl, rfl, h1, r1⟩ := trodAll_cons r0
  obtain ⟨rfl, rfl, rfl⟩ := trodAll_nil r1
  obtain rfl : args = #[v0, v1] := by cases args; simp_all
  obtain ⟨rfl, rfl⟩ := trodVars_none hV
  have hk' : Rows.uptoBulkAll [d0, d1] ≤ 1048576 := of_decide_eq_true hk
  simp only [Rows.uptoBulkAll] at hk'
  have hz1 : Fit Try.prog (Rows.uptoBulk d1) 110 d1 := ⟨Sized.of_each hz (j := 1) (by simp) (by simp), Nat.le_refl _⟩
  obtain ⟨m0, rfl⟩ := okWide_int' Try.underlying3 (hval 0 _ v0 rfl rfl)
  obtain ⟨A1, n1, c1, rfl⟩ := okWide_slice Try.underlying110 (hval 1 _ v1 rfl rfl)
  obtain ⟨fuel0, hf0⟩ := h0
  obtain ⟨fuel1, hf1⟩ := h1
  obtain ⟨u1, l, ys1, e1, s1, r1', k1, b1⟩ := rd2_rows (α := AOp) (R := AOpQ W (Rows.uptoBulk d1)) (k := 28) Try.underlying110 (by kernel_rfl) (by omega) (fun n cs y hy hyz => rd2_aop n cs y hy hyz) hf1 hz1
  obtain ⟨rfl, hop⟩ := aops l ys1 r1'
  obtain hv1 := (List.cons.inj e1).1
  rw [hv1]
  rw [hv1] at hW'
  refine (auditorPlays_law m0 l u1 W _ s1 (fun o ho => ⟨(hop o ho).data, Nat.le_trans (hop o ho).len (by decide), (hop o ho).rows⟩) (sumR_bound fun o ho => by have := (hop o ho).rowsN; unfold rowsN; omega)).mono fun e W' ⟨he, hf⟩ => ?_
  exact ⟨_, he, law_post hW' rfl rfl rfl Try.underlying4 laid (by
    rw [Try.params9]
    intro t ht
    simp at ht
    rcases ht with rfl | rfl
    · exact ⟨rec0, of_decide_eq_true lt0⟩
    · exact ⟨rec1, of_decide_eq_true lt1⟩) hf⟩

set_option maxRecDepth 100000 in
theorem lifted (os : Os) (started : os.Started) (H : Type) (enc : TypeId × Value → H) (F : Stop.Interp) :
    ReturnsInHanded {} Try.checked os 9 .any ((Rows.OpenSpec.upto Rows.auditorPlaysSpec).pre6 enc Try.prog Try.f9 Rows.auditorPlaysUptoRow.domain false) (((Rows.OpenSpec.upto Rows.auditorPlaysSpec).at F).post enc Try.prog Try.f9 false true false false) := by
  refine returnsInHanded_of_cond_sized (C := Try.checked) (s := Rows.OpenSpec.upto Rows.auditorPlaysSpec) (k := Rows.uptoSmall) rfl own started (by kernel_rfl) Try.func9
    (OpenSpec.witness (enc := enc) (C := Try.checked) (s := Rows.OpenSpec.upto Rows.auditorPlaysSpec) (k := Rows.uptoSmall) rfl false ⟨#[], #[.int .i64 0, .slice none 0 0], []⟩ 8 (by kernel_rfl) (by kernel_rfl) (by kernel_rfl)
      (x := ([.lit (.int .i64 0), .nil], [], [])) (by kernel_rfl) rfl (by kernel_rfl)) ?_
  intro W base args ds gs before hval hW _ hk hz _
  exact contract H enc W args ds gs before base hval hW hz hk

theorem proved : Rows.AuditorPlaysUptoSaid :=
  OpenClaim.holds_of_cond 9 Try.f9 rfl rfl rfl rfl rfl rfl rfl ⟨rfl, rfl, rfl, rfl, rfl⟩ rfl rfl rfl rfl rfl (by kernel_rfl) Try.func9 (by kernel_rfl)
    (of_decide_eq_true (by kernel_rfl)) (by unfold Func.isWrapper; first | (rw [if_pos (by decide +kernel)]; kernel_rfl) | (rw [if_neg (by decide +kernel)]; exact ⟨rfl, rfl⟩))
    (fun os started H enc _ F => lifted os started H enc F)
end Go.Proofs.Ytglcmlicfmmlpaa.auditorPlays
