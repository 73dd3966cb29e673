/- The row of the law BtreeFull: for every input it returns true and leaves its arguments as they were. No condition on the input. -/
import Derived.Test.YtgeldfgcicjidaaRows
import Derived.Test.YtgeldfgcicjidaaT22
import Derived.Test.YtgeldfgcicjidaaBtOps
import Derived.SizedLaws
import Derived.JoinedOf
import Derived.Handed
namespace Go.Proofs.Ytgeldfgcicjidaa.btreeFull
open Go.ChangeShapes Go.WideShapes Go.ChangeAt Go.RowKit Go.Deep

theorem own : ownKnob Try.prog.godebug = none := by kernel_rfl
theorem laid : laidOutB Try.prog = true := by kernel_rfl
theorem rec0 : Try.prog.readableRec 22 = true := by kernel_rfl
theorem lt0 : decide (22 < Try.prog.types.size) = true := by kernel_rfl
theorem rec1 : Try.prog.readableRec 40 = true := by kernel_rfl
theorem lt1 : decide (40 < Try.prog.types.size) = true := by kernel_rfl

set_option maxRecDepth 100000 in
theorem contract (H : Type) (enc : TypeId × Value → H) (W : World) (args : Array Value) (ds gs : List (DataW H)) (before : List MemPlace) (base : Nat)
    (hval : ∀ (j : Nat) t v, Try.f4.params[j]? = some t → args[j]? = some v → Value.okWide Try.prog W .any base t v)
    (hW : DataW.Whole enc Try.prog Try.f4.params.toList Rows.btreeFullSpec.vars false W args.toList ds gs before)
    (hz : (DataW.weightsEach Try.prog (Try.f4.params.toList ++ Rows.btreeFullSpec.plain.varTypes Try.prog) (ds ++ gs)).all (· ≤ reachBytes) = true) :
    Calls Try.prog 4 args W fun e W' => ∃ v, e = .returned v ∧ Rows.btreeFullSpec.post enc Try.prog Try.f4 false true false false W args v W' := by
  have hW' := hW
  obtain ⟨p, q, hA0, hV, rfl, hfz, hnd⟩ := hW
  have hA : DataW.TrodAll enc Try.prog W 0 (fun _ => true) true Try.f4.params.toList args.toList ds p := hA0
  rw [Try.params4] at hA hz hval
  obtain ⟨v0, vs0, d0, ds0, p0, q0, hargs, rfl, rfl, h0, r0⟩ := trodAll_cons hA
  obtain ⟨v1, vs1, d1, ds1, p1, q1, rfl, rfl, rfl, h1, r1⟩ := trodAll_cons r0
  obtain ⟨rfl, rfl, rfl⟩ := trodAll_nil r1
  obtain rfl : args = #[v0, v1] := by cases args; simp_all
  obtain ⟨rfl, rfl⟩ := trodVars_none hV
  have hz0 : Sized Try.prog 22 d0 := Sized.of_each hz (j := 0) (by simp) (by simp)
  have hz1 : Sized Try.prog 40 d1 := Sized.of_each hz (j := 1) (by simp) (by simp)
  obtain ⟨A0, n0, c0, rfl⟩ := okWide_slice Try.underlying22 (hval 0 _ v0 rfl rfl)
  obtain ⟨A1, n1, c1, rfl⟩ := okWide_slice Try.underlying40 (hval 1 _ v1 rfl rfl)
  obtain ⟨fuel0, hf0⟩ := h0
  obtain ⟨fuel1, hf1⟩ := h1
  obtain ⟨w0, l0, y0, e0, hsl0, hrows0, _⟩ := rd_rows (α := Pm) (R := PmR W) (k := 3) Try.underlying22 (by kernel_rfl) (by omega) (fun n cs y hy hyz => rd_pair n cs y hy hyz) hf0 hz0
  obtain rfl : Value.slice A0 n0 c0 = w0 := (List.cons.inj e0).1
  obtain ⟨A90, c90, e90⟩ := sl_len hsl0
  obtain rfl : n0 = l0.length := by injection e90
  obtain ⟨rfl, hB0⟩ := pairs_of l0 y0 hrows0
  obtain ⟨w1, l1, y1, e1, hsl1, hrows1, _⟩ := rd_rows (α := Ob) (R := ObR W) (k := 5) Try.underlying40 (by kernel_rfl) (by omega) (fun n cs y hy hyz => rd_ob n cs y hy hyz) hf1 hz1
  obtain rfl : Value.slice A1 n1 c1 = w1 := (List.cons.inj e1).1
  obtain ⟨A91, c91, e91⟩ := sl_len hsl1
  obtain rfl : n1 = l1.length := by injection e91
  obtain ⟨rfl, hB1⟩ := obs_of l1 y1 hrows1
  refine (btreeFull_law W A0 l0.length c0 l0 (vw_kept (by decide) hsl0) (fun x hx => vw_kept (by decide) (hB0 x hx).1) rfl A1 l1.length c1 l1 (vw_kept (by decide) hsl1) (fun x hx => vw_kept (by decide) (hB1 x hx).2.1) rfl).mono fun e W' ⟨he, hf⟩ => ?_
  exact ⟨_, he, law_post hW' rfl rfl rfl Try.underlying4 laid (by
    rw [Try.params4]
    intro t ht
    simp at ht
    rcases ht with rfl | rfl
    · exact ⟨rec0, of_decide_eq_true lt0⟩
    · exact ⟨rec1, of_decide_eq_true lt1⟩) hf⟩

set_option maxRecDepth 100000 in
theorem lifted (os : Os) (started : os.Started) (H : Type) (enc : TypeId × Value → H) :
    ReturnsInHanded {} Try.checked os 4 .any (Rows.btreeFullSpec.pre6 enc Try.prog Try.f4 Rows.btreeFullRow.domain false) (Rows.btreeFullSpec.post enc Try.prog Try.f4 false true false false) := by
  refine returnsInHanded_of_change_sized (C := Try.checked) own started (by kernel_rfl) Try.func4
    (ChangeSpec.witness6 (enc := enc) (C := Try.checked) false ⟨#[], #[.slice none 0 0, .slice none 0 0], []⟩ 8 (by kernel_rfl) (by kernel_rfl) (by kernel_rfl) (by kernel_rfl)) ?_
  intro W base args ds gs before hval hW _ hz _
  exact contract H enc W args ds gs before base hval hW hz

theorem proved : Rows.BtreeFullSaid :=
  OpenClaim.holds_of_wide 4 Try.f4 rfl rfl rfl rfl rfl rfl rfl ⟨rfl, rfl, rfl, rfl, rfl⟩ rfl rfl rfl rfl rfl (by kernel_rfl) Try.func4 (by kernel_rfl)
    (of_decide_eq_true (by kernel_rfl)) (by unfold Func.isWrapper; first | (rw [if_pos (by decide +kernel)]; kernel_rfl) | (rw [if_neg (by decide +kernel)]; exact ⟨rfl, rfl⟩))
    (fun os started H enc _ => lifted os started H enc)
end Go.Proofs.Ytgeldfgcicjidaa.btreeFull
