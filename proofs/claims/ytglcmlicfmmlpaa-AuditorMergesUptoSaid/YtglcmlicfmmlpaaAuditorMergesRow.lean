/- The row of the law AuditorMerges, where what it reads is of bulk at most 1048576: it returns true and leaves its arguments as they were. -/
import Derived.Test.YtglcmlicfmmlpaaRows
import Derived.Test.YtglcmlicfmmlpaaA17
import Derived.Test.YtglcmlicfmmlpaaAudRead
import Derived.SizedLaws
import Derived.JoinedOf
import Derived.Handed
import Derived.Deep.CondSized
namespace Go.Proofs.Ytglcmlicfmmlpaa.auditorMerges
open Go.ChangeShapes Go.WideShapes Go.ChangeAt Go.RowKit Go.Deep

theorem own : ownKnob Try.prog.godebug = none := by kernel_rfl
theorem laid : laidOutB Try.prog = true := by kernel_rfl
theorem rec0 : Try.prog.readableRec 31 = true := by kernel_rfl
theorem lt0 : decide (31 < Try.prog.types.size) = true := by kernel_rfl

set_option maxRecDepth 100000 in
theorem contract (H : Type) (enc : TypeId × Value → H) (W : World) (args : Array Value) (ds gs : List (DataW H)) (before : List MemPlace) (base : Nat)
    (hval : ∀ (j : Nat) t v, Try.f10.params[j]? = some t → args[j]? = some v → Value.okWide Try.prog W .any base t v)
    (hW : DataW.Whole enc Try.prog Try.f10.params.toList Rows.auditorMergesSpec.vars false W args.toList ds gs before)
    (hz : (DataW.weightsEach Try.prog (Try.f10.params.toList ++ Rows.auditorMergesSpec.plain.varTypes Try.prog) (ds ++ gs)).all (· ≤ reachBytes) = true) (hk : Rows.uptoSmall H (ds ++ gs) = true) :
    Calls Try.prog 10 args W fun e W' => ∃ v, e = .returned v ∧ Rows.auditorMergesSpec.post enc Try.prog Try.f10 false true false false W args v W' := by
  have hW' := hW
  obtain ⟨p, q, hA0, hV, rfl, hfz, hnd⟩ := hW
  have hA : DataW.TrodAll enc Try.prog W 0 (fun _ => true) true Try.f10.params.toList args.toList ds p := hA0
  rw [Try.params10] at hA hz hval
  obtain ⟨v0, vs0, d0, ds0, p0, q0, hargs, rfl, rfl, h0, r0⟩ := trodAll_cons hA
  obtain ⟨v1, vs1, d1, ds1, p1, q1, rfl, rfl, rfl, h1, r1⟩ := trodAll_cons r0
  obtain ⟨v2, vs2, d2, ds2, p2, q2, rfl, rfl, rfl, h2, r2⟩ := trodAll_cons r1
  obtain ⟨rfl, rfl, rfl⟩ := trodAll_nil r2
  obtain rfl : args = #[v0, v1, v2] := by cases args; simp_all
  obtain ⟨rfl, rfl⟩ := trodVars_none hV
  have hk' : Rows.uptoBulkAll [d0, d1, d2] ≤ 1048576 := of_decide_eq_true hk
  simp only [Rows.uptoBulkAll] at hk'
  have hz0 : Fit Try.prog (Rows.uptoBulk d0) 31 d0 := ⟨Sized.of_each hz (j := 0) (by simp) (by simp), Nat.le_refl _⟩
  have hz1 : Fit Try.prog (Rows.uptoBulk d1) 31 d1 := ⟨Sized.of_each hz (j := 1) (by simp) (by simp), Nat.le_refl _⟩
  have hz2 : Fit Try.prog (Rows.uptoBulk d2) 31 d2 := ⟨Sized.of_each hz (j := 2) (by simp) (by simp), Nat.le_refl _⟩
  obtain ⟨A0, n0, c0, rfl⟩ := okWide_slice Try.underlying31 (hval 0 _ v0 rfl rfl)
  obtain ⟨A1, n1, c1, rfl⟩ := okWide_slice Try.underlying31 (hval 1 _ v1 rfl rfl)
  obtain ⟨A2, n2, c2, rfl⟩ := okWide_slice Try.underlying31 (hval 2 _ v2 rfl rfl)
  obtain ⟨fuel0, hf0⟩ := h0
  obtain ⟨fuel1, hf1⟩ := h1
  obtain ⟨fuel2, hf2⟩ := h2
  obtain ⟨u0, a, ys0, e0, s0, r0, k0, b0⟩ := rd2_rows (α := GRow) (R := GRowR) (k := 2) Try.underlying31 (by kernel_rfl) (by omega) (fun n cs y hy hyz => rd2_grow n cs y hy hyz) hf0 hz0
  obtain rfl := grows a ys0 r0
  obtain hv0 := (List.cons.inj e0).1
  obtain ⟨u1, b, ys1, e1, s1, r1, k1, b1⟩ := rd2_rows (α := GRow) (R := GRowR) (k := 2) Try.underlying31 (by kernel_rfl) (by omega) (fun n cs y hy hyz => rd2_grow n cs y hy hyz) hf1 hz1
  obtain rfl := grows b ys1 r1
  obtain hv1 := (List.cons.inj e1).1
  obtain ⟨u2, c, ys2, e2, s2, r2, k2, b2⟩ := rd2_rows (α := GRow) (R := GRowR) (k := 2) Try.underlying31 (by kernel_rfl) (by omega) (fun n cs y hy hyz => rd2_grow n cs y hy hyz) hf2 hz2
  obtain rfl := grows c ys2 r2
  obtain hv2 := (List.cons.inj e2).1
  rw [hv0, hv1, hv2]
  rw [hv0, hv1, hv2] at hW'
  refine (auditorMerges_law u0 u1 u2 a b c W _ s0 s1 s2 (by omega)).mono fun e W' ⟨he, hf⟩ => ?_
  exact ⟨_, he, law_post hW' rfl rfl rfl Try.underlying4 laid (by
    rw [Try.params10]
    intro t ht
    simp at ht
    rcases ht with rfl
    · exact ⟨rec0, of_decide_eq_true lt0⟩) hf⟩

set_option maxRecDepth 100000 in
theorem lifted (os : Os) (started : os.Started) (H : Type) (enc : TypeId × Value → H) (F : Stop.Interp) :
    ReturnsInHanded {} Try.checked os 10 .any ((Rows.OpenSpec.upto Rows.auditorMergesSpec).pre6 enc Try.prog Try.f10 Rows.auditorMergesUptoRow.domain false) (((Rows.OpenSpec.upto Rows.auditorMergesSpec).at F).post enc Try.prog Try.f10 false true false false) := by
  refine returnsInHanded_of_cond_sized (C := Try.checked) (s := Rows.OpenSpec.upto Rows.auditorMergesSpec) (k := Rows.uptoSmall) rfl own started (by kernel_rfl) Try.func10
    (OpenSpec.witness (enc := enc) (C := Try.checked) (s := Rows.OpenSpec.upto Rows.auditorMergesSpec) (k := Rows.uptoSmall) rfl false ⟨#[], #[.slice none 0 0, .slice none 0 0, .slice none 0 0], []⟩ 8 (by kernel_rfl) (by kernel_rfl) (by kernel_rfl)
      (x := ([.nil, .nil, .nil], [], [])) (by kernel_rfl) rfl (by kernel_rfl)) ?_
  intro W base args ds gs before hval hW _ hk hz _
  exact contract H enc W args ds gs before base hval hW hz hk

theorem proved : Rows.AuditorMergesUptoSaid :=
  OpenClaim.holds_of_cond 10 Try.f10 rfl rfl rfl rfl rfl rfl rfl ⟨rfl, rfl, rfl, rfl, rfl⟩ rfl rfl rfl rfl rfl (by kernel_rfl) Try.func10 (by kernel_rfl)
    (of_decide_eq_true (by kernel_rfl)) (by unfold Func.isWrapper; first | (rw [if_pos (by decide +kernel)]; kernel_rfl) | (rw [if_neg (by decide +kernel)]; exact ⟨rfl, rfl⟩))
    (fun os started H enc _ F => lifted os started H enc F)
end Go.Proofs.Ytglcmlicfmmlpaa.auditorMerges
