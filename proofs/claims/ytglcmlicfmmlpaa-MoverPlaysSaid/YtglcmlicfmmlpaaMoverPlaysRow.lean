/- The row of the law MoverPlays: for every input it returns true and leaves its argument as it was. No condition on the input. -/
import Derived.Test.YtglcmlicfmmlpaaRows
import Derived.Test.YtglcmlicfmmlpaaMoverPlays1
import Derived.Test.YtglcmlicfmmlpaaMoverRead
import Derived.SizedLaws
import Derived.JoinedOf
import Derived.Handed
namespace Go.Proofs.Ytglcmlicfmmlpaa.moverPlays
open Go.ChangeShapes Go.WideShapes Go.ChangeAt Go.RowKit Go.Deep

theorem own : ownKnob Try.prog.godebug = none := by kernel_rfl
theorem laid : laidOutB Try.prog = true := by kernel_rfl
theorem rec0 : Try.prog.readableRec 63 = true := by kernel_rfl
theorem lt0 : decide (63 < Try.prog.types.size) = true := by kernel_rfl

set_option maxRecDepth 100000 in
theorem contract (H : Type) (enc : TypeId × Value → H) (W : World) (args : Array Value) (ds gs : List (DataW H)) (before : List MemPlace) (base : Nat)
    (hval : ∀ (j : Nat) t v, Try.f5.params[j]? = some t → args[j]? = some v → Value.okWide Try.prog W .any base t v)
    (hW : DataW.Whole enc Try.prog Try.f5.params.toList Rows.moverPlaysSpec.vars false W args.toList ds gs before)
    (hz : (DataW.weightsEach Try.prog (Try.f5.params.toList ++ Rows.moverPlaysSpec.plain.varTypes Try.prog) (ds ++ gs)).all (· ≤ reachBytes) = true) :
    Calls Try.prog 5 args W fun e W' => ∃ v, e = .returned v ∧ Rows.moverPlaysSpec.post enc Try.prog Try.f5 false true false false W args v W' := by
  have hW' := hW
  obtain ⟨p, q, hA0, hV, rfl, hfz, hnd⟩ := hW
  have hA : DataW.TrodAll enc Try.prog W 0 (fun _ => true) true Try.f5.params.toList args.toList ds p := hA0
  rw [Try.params5] at hA hz hval
  obtain ⟨v0, vs0, d0, ds0, p0, q0, hargs, rfl, rfl, h0, r0⟩ := trodAll_cons hA
  obtain ⟨rfl, rfl, rfl⟩ := trodAll_nil r0
  obtain rfl : args = #[v0] := by cases args; simp_all
  obtain ⟨rfl, rfl⟩ := trodVars_none hV
  have hz0 : Sized Try.prog 63 d0 := Sized.of_each hz (j := 0) (by simp) (by simp)
  obtain ⟨A0, n0, c0, rfl⟩ := okWide_slice Try.underlying63 (hval 0 _ v0 rfl rfl)
  obtain ⟨fuel0, hf0⟩ := h0
  obtain ⟨w0, l0, y0, e0, hsl0, hrows0, _⟩ := rd_rows (α := MOp) (R := MOpR W) (k := 31) Try.underlying63 (by kernel_rfl) (by omega) (fun n cs y hy hyz => by
    obtain ⟨kd, x, ga, c, va, ba, why, wait, rw_, ra, vr, vd, bd, h1, h2, h3, h4⟩ := rd_mop n cs y hy hyz
    exact ⟨⟨kd, x, ga, c, va, ba, why, wait, rw_, ra, vr, vd, bd⟩, h1, h2, h3, h4⟩) hf0 hz0
  obtain rfl : Value.slice A0 n0 c0 = w0 := (List.cons.inj e0).1
  refine (moverPlays_law _ l0 y0 W hsl0 hrows0).mono fun e W' ⟨he, hf⟩ => ?_
  exact ⟨_, he, law_post hW' rfl rfl rfl Try.underlying4 laid (by
    rw [Try.params5]
    intro t ht
    simp at ht
    rcases ht with rfl
    · exact ⟨rec0, of_decide_eq_true lt0⟩) hf⟩

set_option maxRecDepth 100000 in
theorem lifted (os : Os) (started : os.Started) (H : Type) (enc : TypeId × Value → H) :
    ReturnsInHanded {} Try.checked os 5 .any (Rows.moverPlaysSpec.pre6 enc Try.prog Try.f5 Rows.moverPlaysRow.domain false) (Rows.moverPlaysSpec.post enc Try.prog Try.f5 false true false false) := by
  refine returnsInHanded_of_change_sized (C := Try.checked) own started (by kernel_rfl) Try.func5
    (ChangeSpec.witness6 (enc := enc) (C := Try.checked) false ⟨#[], #[.slice none 0 0], []⟩ 8 (by kernel_rfl) (by kernel_rfl) (by kernel_rfl) (by kernel_rfl)) ?_
  intro W base args ds gs before hval hW _ hz _
  exact contract H enc W args ds gs before base hval hW hz

theorem proved : Rows.MoverPlaysSaid :=
  OpenClaim.holds_of_wide 5 Try.f5 rfl rfl rfl rfl rfl rfl rfl ⟨rfl, rfl, rfl, rfl, rfl⟩ rfl rfl rfl rfl rfl (by kernel_rfl) Try.func5 (by kernel_rfl)
    (of_decide_eq_true (by kernel_rfl)) (by unfold Func.isWrapper; first | (rw [if_pos (by decide +kernel)]; kernel_rfl) | (rw [if_neg (by decide +kernel)]; exact ⟨rfl, rfl⟩))
    (fun os started H enc _ => lifted os started H enc)
end Go.Proofs.Ytglcmlicfmmlpaa.moverPlays
