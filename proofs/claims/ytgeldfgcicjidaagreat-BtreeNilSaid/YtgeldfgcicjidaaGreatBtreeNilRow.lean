/- The row of the law BtreeNil: for every input it returns true and leaves its arguments as they were. No condition on the input. -/
import Derived.Test.YtgeldfgcicjidaaGreatRows
import Derived.Test.YtgeldfgcicjidaaGreatBN
import Derived.Test.YtgeldfgcicjidaaGreatArgs
import Derived.SizedLaws
import Derived.JoinedOf
import Derived.Handed
namespace Go.Proofs.YtgeldfgcicjidaaGreat.btreeNil
open Go.ChangeShapes Go.WideShapes Go.ChangeAt Go.RowKit Go.Deep

theorem own : ownKnob Tryz.prog.godebug = none := by kernel_rfl
theorem laid : laidOutB Tryz.prog = true := by kernel_rfl
theorem rec0 : Tryz.prog.readableRec 9 = true := by kernel_rfl
theorem lt0 : decide (9 < Tryz.prog.types.size) = true := by kernel_rfl
theorem rec1 : Tryz.prog.readableRec 37 = true := by kernel_rfl
theorem lt1 : decide (37 < Tryz.prog.types.size) = true := by kernel_rfl

set_option maxRecDepth 100000 in
theorem contract (H : Type) (enc : TypeId × Value → H) (W : World) (args : Array Value) (ds gs : List (DataW H)) (before : List MemPlace) (base : Nat)
    (hval : ∀ (j : Nat) t v, Tryz.f4.params[j]? = some t → args[j]? = some v → Value.okWide Tryz.prog W .any base t v)
    (hW : DataW.Whole enc Tryz.prog Tryz.f4.params.toList Rows.btreeNilSpec.vars false W args.toList ds gs before)
    (hz : (DataW.weightsEach Tryz.prog (Tryz.f4.params.toList ++ Rows.btreeNilSpec.plain.varTypes Tryz.prog) (ds ++ gs)).all (· ≤ reachBytes) = true) :
    Calls Tryz.prog 4 args W fun e W' => ∃ v, e = .returned v ∧ Rows.btreeNilSpec.post enc Tryz.prog Tryz.f4 false true false false W args v W' := by
  have hW' := hW
  obtain ⟨p, q, hA0, hV, rfl, hfz, hnd⟩ := hW
  have hA : DataW.TrodAll enc Tryz.prog W 0 (fun _ => true) true Tryz.f4.params.toList args.toList ds p := hA0
  rw [Tryz.params4] at hA hz hval
  obtain ⟨v0, vs0, d0, ds0, p0, q0, hargs, rfl, rfl, h0, r0⟩ := trodAll_cons hA
  obtain ⟨v1, vs1, d1, ds1, p1, q1, rfl, rfl, rfl, h1, r1⟩ := trodAll_cons r0
  obtain ⟨rfl, rfl, rfl⟩ := trodAll_nil r1
  obtain rfl : args = #[v0, v1] := by cases args; simp_all
  obtain ⟨rfl, rfl⟩ := trodVars_none hV
  have hz1 : Sized Tryz.prog 37 d1 := Sized.of_each hz (j := 1) (by simp) (by simp)
  obtain ⟨s0, rfl⟩ := okWide_string Tryz.underlying9 (hval 0 _ v0 rfl rfl)
  obtain ⟨A1, n1, c1, rfl⟩ := okWide_slice Tryz.underlying37 (hval 1 _ v1 rfl rfl)
  obtain ⟨fuel0, hf0⟩ := h0
  obtain ⟨fuel1, hf1⟩ := h1
  refine (btreeNil_law s0.data.toList (.slice A1 n1 c1) rfl W).mono fun e W' ⟨he, hf⟩ => ?_
  exact ⟨_, he, law_post hW' rfl rfl rfl Tryz.underlying4 laid (by
    rw [Tryz.params4]
    intro t ht
    simp at ht
    rcases ht with rfl | rfl
    · exact ⟨rec0, of_decide_eq_true lt0⟩
    · exact ⟨rec1, of_decide_eq_true lt1⟩) hf⟩

set_option maxRecDepth 100000 in
theorem lifted (os : Os) (started : os.Started) (H : Type) (enc : TypeId × Value → H) :
    ReturnsInHanded {} Tryz.checked os 4 .any (Rows.btreeNilSpec.pre6 enc Tryz.prog Tryz.f4 Rows.btreeNilRow.domain false) (Rows.btreeNilSpec.post enc Tryz.prog Tryz.f4 false true false false) := by
  refine returnsInHanded_of_change_sized (C := Tryz.checked) own started (by kernel_rfl) Tryz.func4
    (ChangeSpec.witness6 (enc := enc) (C := Tryz.checked) false ⟨#[], #[.string ⟨#[]⟩, .slice none 0 0], []⟩ 8 (by kernel_rfl) (by kernel_rfl) (by kernel_rfl) (by kernel_rfl)) ?_
  intro W base args ds gs before hval hW _ hz _
  exact contract H enc W args ds gs before base hval hW hz

theorem proved : Rows.BtreeNilSaid :=
  OpenClaim.holds_of_wide 4 Tryz.f4 rfl rfl rfl rfl rfl rfl rfl ⟨rfl, rfl, rfl, rfl, rfl⟩ rfl rfl rfl rfl rfl (by kernel_rfl) Tryz.func4 (by kernel_rfl)
    (of_decide_eq_true (by kernel_rfl)) (by unfold Func.isWrapper; first | (rw [if_pos (by decide +kernel)]; kernel_rfl) | (rw [if_neg (by decide +kernel)]; exact ⟨rfl, rfl⟩))
    (fun os started H enc _ => lifted os started H enc)
end Go.Proofs.YtgeldfgcicjidaaGreat.btreeNil
