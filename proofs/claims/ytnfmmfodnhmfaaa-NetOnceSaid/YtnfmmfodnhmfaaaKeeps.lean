/- The walk of the law NetKeeps: it returns true and turns nothing that was there. -/
import Derived.Test.YtnfmmfodnhmfaaaNetLaw
import Derived.Test.YtnfmmfodnhmfaaaArgs
namespace Go.Proofs.Ytnfmmfodnhmfaaa
open Go.RowKit Go.Maps

structure NOp where
  kind : Int
  f : Int
  n : Int
  b : List UInt8

/-- An operation of a script, as the law's argument holds it. -/
def NOpR (W : World) (x : NOp) (c : List Value) : Prop :=
  x.b.length ≤ 140737488351232 ∧ ∃ A cap, c = [.int .i64 x.kind, .int .i64 x.f, .int .i64 x.n, .slice A x.b.length cap] ∧ Bs W (fun b => b < W.heap.size) (.slice A x.b.length cap) x.b

/-- The letters that a list of Sends leaves. -/
def sentOf : List Letter → List NOp → List Letter
  | L, [] => L
  | L, x :: xs => sentOf (if sendWhy L x.f x.n x.b = 0 then L ++ [⟨x.f, x.n, x.b⟩] else L) xs
theorem sentOf_snoc (L : List Letter) (xs : List NOp) (x : NOp) : sentOf L (xs ++ [x]) = if sendWhy (sentOf L xs) x.f x.n x.b = 0 then sentOf L xs ++ [⟨x.f, x.n, x.b⟩] else sentOf L xs := by
  induction xs generalizing L with
  | nil => rfl
  | cons y xs ih => exact ih _
theorem sentOf_len (L : List Letter) (xs : List NOp) : (sentOf L xs).length ≤ L.length + xs.length := by
  induction xs generalizing L with
  | nil => simp [sentOf]
  | cons y xs ih =>
    simp only [sentOf]
    refine Nat.le_trans (ih _) ?_
    split <;> simp <;> omega

theorem info_refletter : (Try.prog.info? 32).map (fun i => (i.zero, i.size, i.bytes)) = some (some (.agg #[.int .i64 0, .int .i64 0, .slice none 0 0]), 3, 40) := by kernel_rfl

theorem own_next {w w' : World} {base : Nat} {T : TypeId} {k n : Nat} {A : Option Addr} {l c : Nat} {cs : List Value} (h : w.ownsRow base T k (.slice A l c) n cs) (hf : Fr nowhere w w') : w'.ownsRow base T k (.slice A l c) n cs :=
  own_same h fun b _ _ hlt => hf.block b hlt id

theorem row_letter {w W : World} {G : Nat → Prop} {base g cb sn : Nat} {T : TypeId} {S : List Letter} {cs : List Value} (hown : W.ownsRow base T 3 (.slice (some ⟨g, 0, none⟩) sn cb) sn cs) (hcs : RowsL (LetterR w G) S cs) (hS : S.length = sn)
    {q : Nat} {y : Letter} (hq : S[q]? = some y) : ∃ A c, W.cell? ⟨g, q * 3, none⟩ = some (.int .i64 y.f) ∧ W.cell? ⟨g, q * 3 + 1, none⟩ = some (.int .i64 y.t) ∧ W.cell? ⟨g, q * 3 + 2, none⟩ = some (.slice A y.d.length c) ∧ Bs w G (.slice A y.d.length c) y.d := by
  have hql : q < S.length := (List.getElem?_eq_some_iff.1 hq).1
  obtain ⟨c, ⟨hd, A3, c3, hc, hb⟩, hget⟩ := hcs.get (k := 3) (fun y c hy => by obtain ⟨_, _, _, rfl, _⟩ := hy; rfl) hq
  subst hc
  refine ⟨A3, c3, ?_, ?_, ?_, hb⟩
  · exact (hown.cellAt (q * 3) (by omega)).trans (hget 0 _ rfl)
  · exact (hown.cellAt (q * 3 + 1) (by omega)).trans (hget 1 _ rfl)
  · exact (hown.cellAt (q * 3 + 2) (by omega)).trans (hget 2 _ rfl)

set_option maxRecDepth 100000 in
set_option maxHeartbeats 4000000 in
theorem keeps_any (v : Value) (l : List NOp) (ys : List Value) (w : World) (hl : Sl w (fun b => b < w.heap.size) 4 v l.length ys) (hr : RowsL (NOpR w) l ys) :
    Calls Try.prog 3 #[v] w fun e w' => e = .returned (.bool true) ∧ Fr nowhere w w' := by
  have hl0 := hl
  obtain ⟨A, c, rfl, hc, hm, hyl, hA⟩ := hl
  obtain ⟨i0, hi, hq0, hq1, hq2⟩ := info_parts info_refletter
  have hll : l.length ≤ 9223372036854775807 := by simp only [maxLen] at hm; omega
  have HA := Lib.hid hA
  have Hyl := Lib.hid hyl
  have Hr := Lib.hid hr
  clear hA hyl hr
  generalize hn : l.length = n at *
  have Hn := Lib.hid hn
  clear hn
  go_enter Try.func3, Try.ntmps3
  go_wp2_with fail
  refine (new_any _).mono ?_
  rintro e w1 ⟨p, rfl, ⟨F, hn, hF⟩, hf⟩
  dsimp only
  go_wp2_with fail
  go_loopw [4, 5] (fun sv i wr => ∃ (k : Nat) (B : Option Addr) (cb : Nat) (cs : List Value) (F' : Nat → Prop), i = .int .i64 k ∧ k ≤ n ∧ k ≤ 100 ∧ sv = .slice B (sentOf [] (l.take k)).length cb ∧
      NetAt wr p (sentOf [] (l.take k)) F' ∧ wr.ownsRow w.heap.size 32 3 (.slice B (sentOf [] (l.take k)).length cb) (sentOf [] (l.take k)).length cs ∧
      RowsL (LetterR w (fun b => b < w.heap.size)) (sentOf [] (l.take k)) cs ∧ Fr nowhere w wr ∧ (∀ b, F' b → w.heap.size ≤ b) ∧ (∀ b, B.map (·.block) = some b → ¬ F' b))
    (fun _ i _ => 100 - (intOf i).toNat)
  case atStart =>
    refine ⟨0, none, 0, [], F, rfl, Nat.zero_le _, by omega, rfl, hn, World.ownsRow_nil _ _ _ _, rfl, hf, hF, by simp⟩
  case round =>
    obtain ⟨k, B, cb, cs, F', rfl, hk, hk1, rfl, hn', hown, hcs, hfr, hF', hBF⟩ := hrel
    have Hown := Lib.hid hown
    have Hcs := Lib.hid hcs
    have HF' := Lib.hid hF'
    have HBF := Lib.hid hBF
    clear hown hcs hF' hBF
    by_cases hlt : k < n ∧ k < 100
    · obtain ⟨hk2, hk3⟩ := hlt
      obtain ⟨x, hx⟩ : ∃ x, l[k]? = some x := ⟨_, List.getElem?_eq_getElem (by have := Hn.out; omega)⟩
      have hsn := sentOf_snoc [] (l.take k) x
      rw [show l.take k ++ [x] = l.take (k + 1) from by rw [List.take_add_one, hx]; rfl] at hsn
      obtain ⟨cc, ⟨hd, A3, c3, hcc, hb⟩, hget⟩ := Hr.out.get (k := 4) (fun y c hy => by obtain ⟨_, _, _, rfl, _⟩ := hy; rfl) hx
      subst hcc
      obtain ⟨g, o, hA, hgl, _, hcell⟩ := HA.out (by omega)
      subst hA
      have hfb : ∀ b, b < w.heap.size → wr.heap[b]? = w.heap[b]? := fun b hb => hfr.block b hb id
      have cell : ∀ j u, [Value.int .i64 x.kind, .int .i64 x.f, .int .i64 x.n, .slice A3 x.b.length c3][j]? = some u → wr.cell? ⟨g, o + (k * 4 + j), none⟩ = some u := fun j u hu =>
        (World.cell?_of_block (w := w) (hfb g hgl)).trans (hcell _ _ (hget j u hu))
      have a1 : wr.cell? ⟨g, o + k * 4 + 1, none⟩ = some (.int .i64 x.f) := by rw [Nat.add_assoc]; exact cell 1 _ rfl
      have a2 : wr.cell? ⟨g, o + k * 4 + 2, none⟩ = some (.int .i64 x.n) := by rw [Nat.add_assoc]; exact cell 2 _ rfl
      have a3 : wr.cell? ⟨g, o + k * 4 + 3, none⟩ = some (.slice A3 x.b.length c3) := by rw [Nat.add_assoc]; exact cell 3 _ rfl
      have Hsn := Lib.hid hsn
      have Hb := Lib.hid hb
      have Hx := Lib.hid hx
      clear hsn hget hcell cell hb hx hl0
      have hd1 : decide ((k : Int) < (n : Int)) = true := by simp; omega
      have hd2 : decide ((k : Int) < 100) = true := by simp; omega
      have hd3 : decide (k < n) = true := by simp; omega
      have hi1 : (k : Int) < (n : Int) := by omega
      have Hfb := Lib.hid hfb
      clear hfb
      go_wp2_with fail
      refine wp_region_plan [.take 0, .take 1, .take 2, .take 3, .take 4, .take 5, .take 6, .take 7, .take 8, .take 9, .take 10, .take 11, .take 12, .take 13, .take 14, .take 15, .run 16 [], .take 17] [[16, 17], [3, 4, 5, 16, 17], [3, 4, 5, 16, 17], [4, 5, 16, 17], [5, 16, 17], [16, 17], [8, 9, 10, 16, 17], [8, 9, 10, 16, 17], [9, 10, 16, 17], [10, 16, 17], [16, 17], [13, 14, 15, 16, 17], [13, 14, 15, 16, 17], [14, 15, 16, 17], [15, 16, 17], [16, 17], [], []] (by kernel_rfl) (by kernel_rfl) (by decide) (by kernel_rfl) (fun _ _ _ _ _ h => h) ?_
      simp only [planWp, Array.getD_eq_getD_getElem?, List.getElem?_toArray, List.getElem?_cons_succ, List.getElem?_cons_zero, Option.getD_some]
      repeat (first | ((with_reducible refine And.intro ?_ ?_); first | exact trivial | rfl) | go_step)
      refine (send_any p _ F' (fun b => b < w.heap.size) x.f x.n _ x.b _ (hn'.next (Fr.drew (Fr.refl _ _))) (Hb.out.same (Nat.le_trans hfr.size (Nat.le_refl _)) (fun b hb _ => Hfb.out b hb)) hd).mono ?_
      rintro e w2 ⟨rfl, F2, hn2, hf2, hF2⟩
      have hfr2 : Fr nowhere w w2 := Fr.trans hfr.drew hf2 (fun b hb e => by have := HF'.out b e; omega)
      have hF2' : ∀ b, F2 b → w.heap.size ≤ b := fun b hb => by
        rcases hF2 b hb with h | h
        · exact HF'.out b h
        · have := hfr.size; simp at h; omega
      have hfb2 : ∀ b, b < w.heap.size → w2.heap[b]? = w.heap[b]? := fun b hb => hfr2.block b hb id
      have hsw : ∀ q, w2.cell? ⟨g, q, none⟩ = wr.cell? ⟨g, q, none⟩ := fun q => (World.cell?_of_block (w := w) (hfb2 g hgl)).trans (World.cell?_of_block (w := w) (Hfb.out g hgl)).symm
      have b1 := (hsw _).trans a1
      have b2 := (hsw _).trans a2
      have b3 := (hsw _).trans a3
      have hz2 := hfr2.size
      have hgl2 : g < w2.heap.size := by omega
      have HF2 := Lib.hid hF2'
      have hbl : ∀ b, B.map (·.block) = some b → b < wr.heap.size ∧ ¬ F2 b ∧ w2.heap[b]? = wr.heap[b]? := fun b hb => by
        have h1 := (Hown.out.lt b (by rw [ownBlock_slice]; exact hb)).2
        have h2 := HBF.out b hb
        have h3 : ¬ F2 b := fun h => by
          rcases hF2 b h with h | h
          · exact h2 h
          · simp at h; omega
        exact ⟨h1, h3, hf2.block b h1 h2⟩
      have Hbl := Lib.hid hbl
      clear a1 a2 a3 hsw hF2 hF2' hfb2 hbl
      dsimp only
      by_cases hw0 : sendWhy (sentOf [] (l.take k)) x.f x.n x.b = 0
      · rw [if_pos hw0] at hn2
        rw [hw0]
        have hlen := sentOf_len [] (l.take k)
        have hlt2 : (l.take k).length ≤ k := List.length_take_le _ _
        have Hw0 := Lib.hid hw0
        generalize hS : sentOf [] (l.take k) = S at *
        have HS := Lib.hid hS
        generalize hSn : S.length = sn at *
        have HSn := Lib.hid hSn
        clear hw0 hS hSn
        simp only [List.length_nil, Nat.zero_add] at hlen
        repeat (first | ((with_reducible refine And.intro ?_ ?_); first | exact trivial | rfl) | go_step)
        refine wp_region_plan [.keep 0, .take 1, .take 2, .take 3, .take 4, .take 5, .take 6, .take 7, .take 8, .take 9, .take 10, .take 11, .take 12, .take 13, .take 14, .take 15, .take 16, .run 17 [0], .run 18 [], .take 19] [[18, 19], [3, 4, 5, 16, 17, 18, 19], [3, 4, 5, 16, 17, 18, 19], [4, 5, 16, 17, 18, 19], [5, 16, 17, 18, 19], [16, 17, 18, 19], [8, 9, 10, 16, 17, 18, 19], [8, 9, 10, 16, 17, 18, 19], [9, 10, 16, 17, 18, 19], [10, 16, 17, 18, 19], [16, 17, 18, 19], [13, 14, 15, 16, 17, 18, 19], [13, 14, 15, 16, 17, 18, 19], [14, 15, 16, 17, 18, 19], [15, 16, 17, 18, 19], [16, 17, 18, 19], [17, 18, 19], [], [], []] (by kernel_rfl) (by kernel_rfl) (by decide) (by kernel_rfl) (fun _ _ _ _ _ h => h) ?_
        simp only [planWp, Array.getD_eq_getD_getElem?, List.getElem?_toArray, List.getElem?_cons_succ, List.getElem?_cons_zero, Option.getD_some]
        repeat (first | ((with_reducible refine And.intro ?_ ?_); first | exact trivial | rfl) | ((fail_if_success at_builtin); go_step))
        refine ⟨by simp only [heldAll, readsAs]; go_simp, ?_⟩
        have own2 : (w2.drew.alloc (.cells #[.int .i64 x.f, .int .i64 x.n, .slice A3 x.b.length c3] 32)).ownsRow w.heap.size 32 3 (.slice B sn cb) sn cs :=
          own_same Hown.out fun b hb _ hlt => by
            rw [hp_new _ _ _ (by have := hf2.size; simp at this ⊢; omega)]
            exact (Hbl.out b (by rw [← ownBlock_slice B sn cb]; exact hb)).2.2
        refine wpList_append_own_at _ rfl _ _ _ rfl w.heap.size 32 i0 _ 3 40 Try.underlying25 hi hq0 hq1 hq2 rfl (by omega) (.slice B sn cb) sn cs rfl own2 ⟨w2.heap.size, 0, none⟩ 1 1 [.int .i64 x.f, .int .i64 x.n, .slice A3 x.b.length c3] rfl rfl ?c2 ?c3 ?c4 ?c5 ?c6 ?_
        case c2 => exact World.news_of_block (heap_alloc_new _ _)
        case c3 => intro u hu; simp at hu; rcases hu with rfl | rfl | rfl <;> rfl
        case c4 => simp only [maxLen]; omega
        case c5 => omega
        case c6 => simp; omega
        intro v3 w3 hown3 hg3 _ hat3
        obtain ⟨B3, cb3, rfl, _⟩ := ownsRow_slice hown3
        have Hat3 := Lib.hid hat3
        have Hown3 := Lib.hid hown3
        clear hat3 hown3 own2 b1 b2 b3
        repeat (first | ((with_reducible refine And.intro ?_ ?_); first | exact trivial | rfl) | go_step)
        have hnext : sentOf [] (l.take (k + 1)) = S ++ [⟨x.f, x.n, x.b⟩] := by rw [Hsn.out, if_pos Hw0.out]
        have hnl : (sentOf [] (l.take (k + 1))).length = sn + 1 := by rw [hnext, List.length_append, HSn.out]; rfl
        have Hnext := Lib.hid hnext
        have Hnl := Lib.hid hnl
        clear hnext hnl
        go_roundw
        case rel =>
          have hw3 : Fr (fun b => B.map (·.block) = some b) w2 w3 := ((Fr.refl _ w2).drew.alloc _).grown hg3 (fun b e => .inl (by rw [ownBlock_slice] at e; exact e))
          have hB3 : ∀ b, B3.map (·.block) = some b → w.heap.size ≤ b ∧ ¬ F2 b := fun b hb => by
            rcases Hat3.out with e | e
            · rw [ownBlock_slice, ownBlock_slice, hb] at e
              exact ⟨(own_blk Hown3.out (by rw [ownBlock_slice]; exact hb)).choose_spec.2, (Hbl.out b e.symm).2.1⟩
            · rw [ownBlock_slice, hb] at e
              simp at e
              exact ⟨by omega, fun h => by have := hn2.lt b h; omega⟩
          refine ⟨k + 1, B3, cb3, _, F2, by go_num, by omega, by omega, by rw [Hnl.out], ?_, by rw [Hnl.out]; exact Hown3.out, ?_, ?_, HF2.out, fun b hb => (hB3 b hb).2⟩
          · rw [Hnext.out]
            exact hn2.fr hw3 (fun b hb e => (Hbl.out b e).2.1 hb)
          · rw [Hnext.out]
            exact Hcs.out.app (RowsL.one ⟨hd, A3, c3, rfl, Hb.out⟩)
          · exact Fr.trans hfr2 hw3 (fun b hb e => by
              have := (own_blk Hown.out (by rw [ownBlock_slice]; exact e)).choose_spec.2
              omega)
        case measure => simp [intOf]; omega
      · rw [if_neg hw0] at hn2
        have hnext : sentOf [] (l.take (k + 1)) = sentOf [] (l.take k) := by rw [Hsn.out, if_neg hw0]
        have hwb : (sendWhy (sentOf [] (l.take k)) x.f x.n x.b == 0) = false := by simpa using hw0
        have Hnext := Lib.hid hnext
        clear hnext hw0
        generalize sendWhy (sentOf [] (l.take k)) x.f x.n x.b = sw at *
        generalize hS : sentOf [] (l.take k) = S at *
        repeat (first | ((with_reducible refine And.intro ?_ ?_); first | exact trivial | rfl) | go_step)
        go_roundw
        case rel =>
          refine ⟨k + 1, B, cb, cs, F2, by go_num, by omega, by omega, by rw [Hnext.out], ?_, ?_, ?_, hfr2, HF2.out, fun b hb => (Hbl.out b hb).2.1⟩
          · rw [Hnext.out]; exact hn2
          · rw [Hnext.out]
            exact own_same Hown.out fun b hb _ hlt => (Hbl.out b (by rw [← ownBlock_slice B S.length cb]; exact hb)).2.2
          · rw [Hnext.out]; exact Hcs.out
        case measure => simp [intOf]; omega
    · have hor : (n : Int) ≤ (k : Int) ∨ (k : Int) < (n : Int) ∧ (100 : Int) ≤ (k : Int) := by omega
      have hlen := sentOf_len [] (l.take k)
      have hlt2 : (l.take k).length ≤ k := List.length_take_le _ _
      generalize sentOf [] (l.take k) = S at *
      generalize hSn : S.length = sn at *
      have HSn := Lib.hid hSn
      have hsn : sn ≤ 100 := by simp at hlen; omega
      clear hlt hSn hlen hlt2 HA Hyl Hr Hn hl0
      rcases hor with hd1 | ⟨hd1, hd2⟩
      all_goals
        go_wp2_with fail
        go_loopw [6] (fun i wq => ∃ (j : Nat) (F2 : Nat → Prop), i = .int .i64 j ∧ j ≤ sn ∧ NetAt wq p (S.drop j) F2 ∧ wq.ownsRow w.heap.size 32 3 (.slice B sn cb) sn cs ∧
          Fr nowhere w wq ∧ (∀ b, F2 b → w.heap.size ≤ b) ∧ (∀ b, B.map (·.block) = some b → ¬ F2 b)) (fun i _ => sn - (intOf i).toNat)
        case atStart => exact ⟨0, F', rfl, Nat.zero_le _, hn', Hown.out, hfr, HF'.out, HBF.out⟩
        case round =>
          rename World => wq
          obtain ⟨j, F2, rfl, hj, hn2, hown2, hfr2, hF2, hBF2⟩ := hrel
          have Hown2 := Lib.hid hown2
          have HF2 := Lib.hid hF2
          have HBF2 := Lib.hid hBF2
          clear hown2 hF2 hBF2
          have hz2 := hfr2.size
          by_cases hjl : j < sn
          · obtain ⟨x, hx⟩ : ∃ x, S[j]? = some x := ⟨_, List.getElem?_eq_getElem (by rw [HSn.out]; exact hjl)⟩
            obtain ⟨g, hB, hgl⟩ : ∃ g, B = some ⟨g, 0, none⟩ ∧ g < wq.heap.size := by
              obtain ⟨g, cap', hB, _, _⟩ := Hown2.out.form (by omega)
              injection hB with hB
              subst hB
              exact ⟨g, rfl, (Hown2.out.lt g rfl).2⟩
            subst hB
            have Hx := Lib.hid hx
            clear hx
            have hj1 : (j : Int) < (sn : Int) := by omega
            have hj3 : decide (j < sn) = true := by simp; omega
            go_wp2_with fail
            go_loopw [7, 8] (fun a b wi => ∃ q : Nat, a = .int .i64 (toN ((S.drop j).take (q - j)) x.t : Nat) ∧ b = .int .i64 q ∧ j ≤ q ∧ q ≤ sn ∧ Fr nowhere wq wi) (fun _ b _ => sn - (intOf b).toNat)
            case atStart => exact ⟨j, by rw [Nat.sub_self]; rfl, rfl, Nat.le_refl _, hj, Fr.refl _ _⟩
            case round =>
              rename World => wi
              obtain ⟨q, rfl, rfl, hq1, hq2, hfi⟩ := hrel
              by_cases hql : q < sn
              · obtain ⟨y, hy⟩ : ∃ y, S[q]? = some y := ⟨_, List.getElem?_eq_getElem (by rw [HSn.out]; exact hql)⟩
                obtain ⟨_, _, _, hc1, _⟩ := row_letter (own_next Hown2.out hfi) Hcs.out HSn.out Hx.out
                obtain ⟨_, _, _, hc2, _⟩ := row_letter (own_next Hown2.out hfi) Hcs.out HSn.out hy
                have hstep : toN ((S.drop j).take (q + 1 - j)) x.t = toN ((S.drop j).take (q - j)) x.t + if y.t = x.t then 1 else 0 := by
                  rw [show q + 1 - j = q - j + 1 from by omega, List.take_add_one, List.getElem?_drop, show j + (q - j) = q from by omega, hy]
                  exact toN_app _ _ _
                have Hstep := Lib.hid hstep
                have hcn : toN ((S.drop j).take (q - j)) x.t ≤ q := by
                  have h1 := toN_le ((S.drop j).take (q - j)) x.t
                  have h2 := List.length_take_le (q - j) (S.drop j)
                  omega
                have hq3 : (q : Int) < (sn : Int) := by omega
                have hq5 : decide (q < sn) = true := by simp; omega
                have hgi : g < wi.heap.size := by have := hfi.size; omega
                clear hstep
                generalize toN ((S.drop j).take (q - j)) x.t = cn at *
                go_wp2_with fail
                refine wp_region_plan [.take 0, .take 1, .take 2, .take 3, .take 4, .take 5, .take 6, .take 7, .take 8, .take 9, .take 10] [[2, 3, 4, 10], [2, 3, 4, 10], [3, 4, 10], [4, 10], [10], [7, 8, 9, 10], [7, 8, 9, 10], [8, 9, 10], [9, 10], [10], []] (by kernel_rfl) (by kernel_rfl) (by decide) (by kernel_rfl) (fun _ _ _ _ _ h => h) ?_
                simp only [planWp, Array.getD_eq_getD_getElem?, List.getElem?_toArray, List.getElem?_cons_succ, List.getElem?_cons_zero, Option.getD_some]
                by_cases he : y.t = x.t
                · have hst := Hstep.out
                  rw [if_pos he] at hst
                  have heb : (y.t == x.t) = true := by simpa using he
                  have Hst := Lib.hid hst
                  clear he hst
                  repeat (first | ((with_reducible refine And.intro ?_ ?_); first | exact trivial | rfl) | go_step)
                  go_roundw
                  case rel => exact ⟨q + 1, by rw [Hst.out]; go_num, by go_num, by omega, by omega, hfi.drew⟩
                  case measure => simp [intOf]; omega
                · have hst := Hstep.out
                  rw [if_neg he] at hst
                  have heb : (y.t == x.t) = false := by simpa using he
                  have Hst := Lib.hid hst
                  clear he hst
                  repeat (first | ((with_reducible refine And.intro ?_ ?_); first | exact trivial | rfl) | go_step)
                  go_roundw
                  case rel => exact ⟨q + 1, by rw [Hst.out]; go_num, by go_num, by omega, by omega, hfi.drew⟩
                  case measure => simp [intOf]; omega
              · have hqe : q = sn := by omega
                subst hqe
                have hdl : (S.drop j).length = q - j := by rw [List.length_drop, HSn.out]
                rw [← hdl, List.take_length]
                have hlenI : (((S.drop j).length : Nat) : Int) = (q : Int) - (j : Int) := by rw [hdl]; omega
                obtain ⟨_, _, _, hc1, _⟩ := row_letter (own_next Hown2.out hfi) Hcs.out HSn.out Hx.out
                have HlenI := Lib.hid hlenI
                have hn3 := hn2.next hfi
                have hgi : g < wi.heap.size := by have := hfi.size; omega
                have h0 : (S.drop j)[0]? = some x := by rw [List.getElem?_drop]; exact Hx.out
                have he0 : (S.drop j).eraseIdx 0 = S.drop (j + 1) := by rw [List.eraseIdx_zero, List.tail_drop]
                have H0 := Lib.hid h0
                have He0 := Lib.hid he0
                clear hlenI hdl h0 he0
                generalize hD : S.drop j = D at *
                generalize htn : toN D x.t = tn at *
                have Htn := Lib.hid htn
                clear htn
                go_wp2_with fail
                refine (to_any p D F2 x.t _ hn3).mono ?_
                rintro e w4 ⟨rfl, hf4⟩
                rw [Htn.out]
                have hn4 := hn3.next hf4
                dsimp only
                go_wp2_with fail
                refine (len_any p D F2 _ hn4).mono ?_
                rintro e w5 ⟨rfl, rfl⟩
                rw [HlenI.out]
                dsimp only
                go_wp2_with fail
                refine (take_some p D F2 0 x _ hn4 H0.out).mono ?_
                rintro e w5 ⟨A5, c5, rfl, ho5, hn5, hf5⟩
                rw [He0.out] at hn5
                have own5 : w5.ownsRow w.heap.size 32 3 (.slice (some ⟨g, 0, none⟩) q cb) q cs := own_same (own_next (own_next Hown2.out hfi) hf4) fun b hb _ hlt => hf5.block b hlt (HBF2.out b (by rw [← ownBlock_slice (some ⟨g, 0, none⟩) q cb]; exact hb))
                have hf15 : Fr F2 w4 w5 := hf5
                have hgw : Fr nowhere w w5 := Fr.trans (Fr.trans (Fr.trans hfr2 hfi (fun _ _ e => e)) hf4 (fun _ _ e => e)) hf5 (fun b hb e => by have := HF2.out b e; omega)
                have Ho5 := Lib.hid ho5
                have Hown5 := Lib.hid own5
                obtain ⟨A9, c9, hq0, hq1, hq2, hrb⟩ := row_letter own5 Hcs.out HSn.out Hx.out
                have hg5 : g < w5.heap.size := (own5.lt g rfl).2
                clear hc1 ho5 own5
                dsimp only
                go_wp2_with fail
                refine wp_region_plan [.take 0, .take 1, .take 2, .take 3, .keep 5, .keep 6, .keep 7, .keep 8, .run 4 [8, 7, 6, 5], .run 9 [], .take 10, .take 11] [[1, 2, 3, 4, 5, 6, 7, 8, 9, 10, 11], [2, 3, 4, 5, 6, 7, 8, 9, 10, 11], [3, 4, 5, 6, 7, 8, 9, 10, 11], [4, 9, 10, 11], [], [7, 8, 9, 10, 11], [7, 8, 9, 10, 11], [8, 9, 10, 11], [9, 10, 11], [], [11], []] (by kernel_rfl) (by kernel_rfl) (by decide) (by kernel_rfl) (fun _ _ _ _ _ h => h) ?_
                simp only [planWp, Array.getD_eq_getD_getElem?, List.getElem?_toArray, List.getElem?_cons_succ, List.getElem?_cons_zero, Option.getD_some]
                repeat (first | ((with_reducible refine And.intro ?_ ?_); first | exact trivial | rfl) | go_step)
                refine (as_any x.f x.t A5 x.d.length c5 _).mono ?_
                rintro e w6 ⟨rfl, hf6⟩
                have hf56 : Fr nowhere w5 w6 := Fr.trans (by (repeat (first | exact Fr.refl _ _ | assumption | refine Fr.setCell ?_ (.inr (by simp)) _ | refine Fr.setCell ?_ (.inr (by simp; omega)) _ | refine Fr.alloc ?_ _ | refine Fr.drew ?_))) hf6 (fun _ _ e => e)
                have hgw6 : Fr nowhere w w6 := Fr.trans hgw hf56 (fun _ _ e => e)
                have hsw : ∀ r, w6.cell? ⟨g, r, none⟩ = w5.cell? ⟨g, r, none⟩ := fun r => World.cell?_of_block (hf56.block g hg5 id)
                have hr0 := (hsw _).trans hq0
                have hr1 := (hsw _).trans hq1
                have hr2 := (hsw _).trans hq2
                clear hsw
                have hg6 : g < w6.heap.size := by have := hf56.size; omega
                have b6 : Blk w6 w5.heap.size _ _ := (Blk.new w5 _ _).same (hf6.block _ (by simp) id)
                obtain ⟨r0, r1, r2, rf0, rf1, rf2⟩ := b6.facts3
                have hs6 := same_yes x.f x.t (fun _ => True) (fun b => b < w.heap.size) (.slice A5 x.d.length c5) (.slice A9 x.d.length c9) x.d w6 ((Sl.of_own (G := fun b => b < w5.heap.size) Ho5.out (fun g hg => (Ho5.out.lt g hg).2)).same hf56.size (fun b hb _ => hf56.block b hb id) |>.mono (fun _ _ _ => trivial)) (hrb.same hgw6.size (fun b hb _ => hgw6.block b hb id))
                have Hs6 := Lib.hid hs6
                clear hs6 hrb
                dsimp only
                repeat (first | ((with_reducible refine And.intro ?_ ?_); first | exact trivial | rfl) | go_step)
                refine ⟨by simp only [heldAll, readsAs]; go_simp, ?_⟩
                repeat (first | ((with_reducible refine And.intro ?_ ?_); first | exact trivial | rfl) | go_step)
                refine Hs6.out.mono ?_
                rintro e w7 ⟨rfl, hf7⟩
                have hsw : ∀ r, w7.cell? ⟨g, r, none⟩ = w6.cell? ⟨g, r, none⟩ := fun r => World.cell?_of_block (hf7.block g hg6 id)
                have ht0 := (hsw _).trans hr0
                have ht1 := (hsw _).trans hr1
                have ht2 := (hsw _).trans hr2
                have hgw7 : Fr nowhere w w7 := Fr.trans hgw6 hf7 (fun _ _ e => e)
                have hf57 : Fr nowhere w5 w7 := Fr.trans hf56 hf7 (fun _ _ e => e)
                have hg7 : g < w7.heap.size := by have := hf7.size; omega
                have b7 : Blk w7 w5.heap.size _ _ := b6.same (hf7.block _ b6.lt id)
                obtain ⟨s0, s1, s2, sf0, sf1, sf2⟩ := b7.facts3
                clear hsw b6
                dsimp only
                repeat (first | ((with_reducible refine And.intro ?_ ?_); first | exact trivial | rfl) | go_step)
                go_roundw
                case rel => exact ⟨j + 1, F2, by go_num, by omega, hn5.next hf57, own_next Hown5.out hf57, hgw7, HF2.out, HBF2.out⟩
                case measure => simp [intOf]; omega
          · have hje : j = sn := by omega
            subst hje
            have hdl : (S.drop j).length = 0 := by rw [List.length_drop, HSn.out, Nat.sub_self]
            have hlenI : (((S.drop j).length : Nat) : Int) = 0 := by rw [hdl]; rfl
            have HlenI := Lib.hid hlenI
            generalize hD : S.drop j = D at *
            clear hlenI hdl hjl
            go_wp2_with fail
            refine (len_any p D F2 _ hn2).mono ?_
            rintro e w5 ⟨rfl, rfl⟩
            rw [HlenI.out]
            dsimp only
            go_wp2_with fail
            refine (known_any _).mono ?_
            rintro e w6 ⟨rfl, hf6⟩
            dsimp only
            go_wp2_with fail
            go_ret
            exact ⟨rfl, Fr.trans hfr2 hf6 (fun _ _ e => e)⟩
end Go.Proofs.Ytnfmmfodnhmfaaa
