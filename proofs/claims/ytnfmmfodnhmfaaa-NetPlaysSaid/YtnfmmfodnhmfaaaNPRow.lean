/- The row of the law NetPlays: the law's walk, brought to the statement. -/
import Derived.Test.YtnfmmfodnhmfaaaRows
import Derived.Test.YtnfmmfodnhmfaaaNP
import Derived.Test.YtnfmmfodnhmfaaaArgs
import Derived.SizedLaws
import Derived.JoinedOf
import Derived.Handed
namespace Go.Proofs.Ytnfmmfodnhmfaaa.netPlays
open Go.ChangeShapes Go.WideShapes Go.ChangeAt Go.RowKit Go.Deep

theorem own : ownKnob Try.prog.godebug = none := by kernel_rfl
theorem laid : laidOutB Try.prog = true := by kernel_rfl

theorem rec0 : Try.prog.readableRec 22 = true := by kernel_rfl
theorem lt0 : decide (22 < Try.prog.types.size) = true := by kernel_rfl

theorem rd_op {H : Type} {enc : TypeId × Value → H} {W : World} (n : Nat) (cs : List Value) (y : DataW H × List MemPlace) (h : DataW.trod enc Try.prog W 0 (fun _ => true) true n 30 cs = some y)
    (hz : Sized Try.prog 30 y.1) : ∃ a : NetOp, NetOpR W a cs := by
  obtain ⟨hl, hf⟩ := rd_struct Try.underlying30 (by kernel_rfl) (by kernel_rfl) h hz
  match cs, hl with
  | [c0, c1, c2, c3], _ =>
    obtain ⟨u0, y0, n0, g0, h0, _⟩ := hf 0 _ rfl
    obtain rfl : c0 = u0 := Option.some.inj g0
    obtain ⟨u1, y1, n1, g1, h1, _⟩ := hf 1 _ rfl
    obtain rfl : c1 = u1 := Option.some.inj g1
    obtain ⟨u2, y2, n2, g2, h2, _⟩ := hf 2 _ rfl
    obtain rfl : c2 = u2 := Option.some.inj g2
    obtain ⟨u3, y3, n3, g3, h3, hz3⟩ := hf 3 _ rfl
    obtain rfl : c3 = u3 := Option.some.inj g3
    obtain ⟨k, e0, _, _⟩ := DataW.trod_int Try.underlying3 h0
    obtain ⟨f, e1, _, _⟩ := DataW.trod_int Try.underlying3 h1
    obtain ⟨m, e2, _, _⟩ := DataW.trod_int Try.underlying3 h2
    obtain ⟨v, bs, e3, hb, hbl⟩ := rd_bytes Try.underlying28 Try.underlying5 (by kernel_rfl) (by kernel_rfl) h3 hz3
    obtain ⟨A, c, rfl⟩ := sl_len hb
    obtain rfl := (List.cons.inj e0).1
    obtain rfl := (List.cons.inj e1).1
    obtain rfl := (List.cons.inj e2).1
    obtain rfl := (List.cons.inj e3).1
    exact ⟨⟨k, f, m, A, c, bs⟩, rfl, hb, hbl⟩

theorem contract (H : Type) (enc : TypeId × Value → H) (W : World) (args : Array Value) (ds gs : List (DataW H)) (before : List MemPlace) (base : Nat)
    (hval : ∀ (j : Nat) t v, Try.f5.params[j]? = some t → args[j]? = some v → Value.okWide Try.prog W .any base t v)
    (hW : DataW.Whole enc Try.prog Try.f5.params.toList Rows.netPlaysSpec.vars false W args.toList ds gs before)
    (hz : (DataW.weightsEach Try.prog (Try.f5.params.toList ++ Rows.netPlaysSpec.plain.varTypes Try.prog) (ds ++ gs)).all (· ≤ reachBytes) = true) :
    Calls Try.prog 5 args W fun e W' => ∃ v, e = .returned v ∧ Rows.netPlaysSpec.post enc Try.prog Try.f5 false true false false W args v W' := by
  have hW' := hW
  obtain ⟨p, q, hA0, hV, rfl, hfz, hnd⟩ := hW
  have hA : DataW.TrodAll enc Try.prog W 0 (fun _ => true) true Try.f5.params.toList args.toList ds p := hA0
  rw [Try.params5] at hA hz hval
  obtain ⟨v0, vs0, d0, ds0, p0, q0, hargs, rfl, rfl, h0, r0⟩ := trodAll_cons hA
  obtain ⟨rfl, rfl, rfl⟩ := trodAll_nil r0
  obtain rfl : args = #[v0] := by cases args; simp_all
  obtain ⟨rfl, rfl⟩ := trodVars_none hV
  have hz0 : Sized Try.prog 22 d0 := Sized.of_each hz (j := 0) rfl rfl
  obtain ⟨A0, n0, c0, rfl⟩ := okWide_slice Try.underlying22 (hval 0 _ v0 rfl rfl)
  obtain ⟨fuel, hfu⟩ := h0
  obtain ⟨v, l, ys, hv, hsl, hrows, _⟩ := rd_rows (α := NetOp) (R := NetOpR W) (k := 4) Try.underlying22 (by kernel_rfl) (by omega) (fun n cs y hy hyz => rd_op n cs y hy hyz) hfu hz0
  obtain rfl : .slice A0 n0 c0 = v := List.cons.inj hv |>.1
  obtain ⟨rfl, hB⟩ := ops_of l ys hrows
  refine (netPlays_law l _ W _ hsl hB).mono fun e W' ⟨he, hf⟩ => ?_
  exact ⟨_, he, law_post hW' rfl rfl rfl Try.underlying4 laid (by rw [Try.params5]; intro t ht; simp at ht; subst ht; exact ⟨rec0, of_decide_eq_true lt0⟩) hf⟩

set_option maxRecDepth 100000 in
theorem lifted (os : Os) (started : os.Started) (H : Type) (enc : TypeId × Value → H) :
    ReturnsInHanded {} Try.checked os 5 .any (Rows.netPlaysSpec.pre6 enc Try.prog Try.f5 Rows.netPlaysRow.domain false) (Rows.netPlaysSpec.post enc Try.prog Try.f5 false true false false) := by
  refine returnsInHanded_of_change_sized (C := Try.checked) own started (by kernel_rfl) Try.func5
    (ChangeSpec.witness6 (enc := enc) (C := Try.checked) false ⟨#[], #[.slice none 0 0], []⟩ 8 (by kernel_rfl) (by kernel_rfl) (by kernel_rfl) (by kernel_rfl)) ?_
  intro W base args ds gs before hval hW _ hz _
  exact contract H enc W args ds gs before base hval hW hz

theorem proved : Rows.NetPlaysSaid :=
  OpenClaim.holds_of_wide 5 Try.f5 rfl rfl rfl rfl rfl rfl rfl ⟨rfl, rfl, rfl, rfl, rfl⟩ rfl rfl rfl rfl rfl (by kernel_rfl) Try.func5 (by kernel_rfl)
    (of_decide_eq_true (by kernel_rfl)) (by unfold Func.isWrapper; first | (rw [if_pos (by decide +kernel)]; kernel_rfl) | (rw [if_neg (by decide +kernel)]; exact ⟨rfl, rfl⟩))
    (fun os started H enc _ => lifted os started H enc)
end Go.Proofs.Ytnfmmfodnhmfaaa.netPlays
