/-
  The walks of package net, continued: look, delete, take.
-/
import Derived.Test.YtnfmmfodnhmfaaaNet
namespace Go.Proofs.Ytnfmmfodnhmfaaa
open Go.RowKit Go.Maps

def noLetter : Value := .agg #[.int .i64 0, .int .i64 0, .slice none 0 0]

set_option maxHeartbeats 1000000 in
theorem look_none (p : Nat) (L : List Letter) (F : Nat → Prop) (k : Int) (w : World) (h : NetAt w p L F) (hk : k < 0 ∨ L.length ≤ k) :
    Calls Try.prog 16 #[.pointer (some ⟨p, 0, none⟩), .int .i64 k] w fun e w' => e = .returned (.tuple #[noLetter, .int .i64 1]) ∧ Fr nowhere w w' := by
  obtain ⟨A, cap, m, cs, M, hp, _⟩ := h
  obtain ⟨hp0, hp1, hpf0, hpf1⟩ := hp.facts2
  have hpl := hp.lt
  generalize hn : L.length = n at *
  clear hn
  unfold noLetter
  rcases hk with hk | hk
  · go_enter Try.func16, Try.ntmps16
    go_wp2
    exact bodyPost_ret (v := .tuple #[.agg #[.int .i64 0, .int .i64 0, .slice none 0 0], .int .i64 1]) (by simp [results, Try.results16, go_sem]) rfl ⟨rfl, by (repeat (first | exact Fr.refl _ _ | assumption | refine Fr.setCell ?_ (by first | (right; omega) | (right; simp; done) | (right; simp; omega) | (left; simp; done) | (left; simp; omega) | (left; dsimp only; omega)) _ | refine Fr.alloc ?_ _ | refine Fr.drew ?_ | refine Fr.setRow ?_ (by first | (right; omega) | (right; simp; done) | (right; simp; omega) | (left; simp; done) | (left; simp; omega) | (left; dsimp only; omega)) _))⟩
  · have hk0 : ¬ k < 0 := by omega
    go_enter Try.func16, Try.ntmps16
    go_wp2
    exact bodyPost_ret (v := .tuple #[.agg #[.int .i64 0, .int .i64 0, .slice none 0 0], .int .i64 1]) (by simp [results, Try.results16, go_sem]) rfl ⟨rfl, by (repeat (first | exact Fr.refl _ _ | assumption | refine Fr.setCell ?_ (by first | (right; omega) | (right; simp; done) | (right; simp; omega) | (left; simp; done) | (left; simp; omega) | (left; dsimp only; omega)) _ | refine Fr.alloc ?_ _ | refine Fr.drew ?_ | refine Fr.setRow ?_ (by first | (right; omega) | (right; simp; done) | (right; simp; omega) | (left; simp; done) | (left; simp; omega) | (left; dsimp only; omega)) _))⟩

set_option maxHeartbeats 1000000 in
theorem look_some (p : Nat) (L : List Letter) (F : Nat → Prop) (k : Nat) (x : Letter) (w : World) (h : NetAt w p L F) (hk : L[k]? = some x) :
    Calls Try.prog 16 #[.pointer (some ⟨p, 0, none⟩), .int .i64 k] w fun e w' => ∃ A c, e = .returned (.tuple #[.agg #[.int .i64 x.f, .int .i64 x.t, .slice A x.d.length c], .int .i64 0]) ∧
      w'.ownsRow w.heap.size 5 1 (.slice A x.d.length c) x.d.length (x.d.map bcell) ∧ Fr nowhere w w' := by
  obtain ⟨A, cap, m, cs, M, hp, hown, hcs, hM, hto, hL, hFp, hFm, hFA, hFl⟩ := h
  obtain ⟨hp0, hp1, hpf0, hpf1⟩ := hp.facts2
  have hpl := hp.lt
  have hkl : k < L.length := (List.getElem?_eq_some_iff.1 hk).1
  obtain ⟨c, ⟨hd, A3, c3, hc, hb⟩, hget⟩ := hcs.get (k := 3) (fun y c hy => by obtain ⟨_, _, _, rfl, _⟩ := hy; rfl) hk
  subst hc
  have g0 := hget 0 _ rfl
  have g1 := hget 1 _ rfl
  have g2 := hget 2 _ rfl
  obtain ⟨g, cap', hA, _, _⟩ := hown.form (by omega)
  have hA : A = some ⟨g, 0, none⟩ := by injection hA
  subst hA
  have e0 : w.cell? ⟨g, k * 3, none⟩ = _ := (hown.cellAt (k * 3) (by omega)).trans g0
  have e1 : w.cell? ⟨g, k * 3 + 1, none⟩ = _ := (hown.cellAt (k * 3 + 1) (by omega)).trans g1
  have e2 : w.cell? ⟨g, k * 3 + 2, none⟩ = _ := (hown.cellAt (k * 3 + 2) (by omega)).trans g2
  have hgl : g < w.heap.size := (hown.lt g rfl).2
  have hb' : ∀ w', w.heap.size ≤ w'.heap.size → (∀ b, b < w.heap.size → w'.heap[b]? = w.heap[b]?) → Bs w' (fun _ => True) (.slice A3 x.d.length c3) x.d := fun w' h1 h2 => (Sl.same hb h1 (fun b _ hlt => h2 b hlt)).mono (fun _ _ _ => trivial)
  have hl0 : (0 : Int) ≤ (k : Int) := by omega
  have hk1 : (k : Int) < (L.length : Int) := by omega
  have hk2 : decide ((L.length : Int) ≤ (k : Int)) = false := by simp; omega
  have hk3 : decide (L.length ≤ k) = false := by simp; omega
  clear hcs hM hto hFA hFl hb hget g0 g1 g2 hk hown
  generalize L.length = n at *
  go_enter Try.func16, Try.ntmps16
  go_wp2_with fail
  refine (own_any x.f x.t (fun _ => True) _ x.d _ ?_ (by omega)).mono ?_
  · exact hb' _ (by simp) (fun b hb => hp_new _ _ _ hb)
  rintro e w1 ⟨A', c', rfl, ho, hn', hf1⟩
  have b1 : Blk w1 w.heap.size _ _ := (Blk.new w _ _).same (hf1.block _ (by simp) id)
  obtain ⟨r0, r1, r2, rf0, rf1, rf2⟩ := b1.facts3
  go_wp2
  refine bodyPost_ret (v := .tuple #[.agg #[.int .i64 x.f, .int .i64 x.t, .slice A' x.d.length c'], .int .i64 0]) (by simp [results, Try.results16, go_sem, *]) rfl ⟨A', c', rfl, ?_, ?_⟩
  · refine own_base (own_same ho fun g' _ hg' hlt => ?_) (fun g' _ hg' => ?_)
    · simp at hg'
      simp (disch := omega) only [hp_set]
    · simp at hg'; omega
  · have hfr : Fr nowhere w w1 := Fr.trans (Fr.alloc (Fr.refl _ _) _) hf1 (fun _ _ e => e)
    (repeat (first | exact Fr.refl _ _ | assumption | refine Fr.setCell ?_ (by first | (right; omega) | (right; simp; done) | (right; simp; omega) | (left; simp; done) | (left; simp; omega) | (left; dsimp only; omega)) _ | refine Fr.alloc ?_ _ | refine Fr.drew ?_ | refine Fr.setRow ?_ (by first | (right; omega) | (right; simp; done) | (right; simp; omega) | (left; simp; done) | (left; simp; omega) | (left; dsimp only; omega)) _))

theorem zero_letter (w : World) : (zeroValue 35).run Try.prog w = .ok noLetter w := by kernel_rfl

theorem cells_letter : noLetter.cells.size = 3 := rfl
theorem zeros_one : ∀ u ∈ (Builtin.zeroCells noLetter.cells 1).toList, u.oneCell' = true := by rw [show (Builtin.zeroCells noLetter.cells 1).toList = [.int .i64 0, .int .i64 0, .slice none 0 0] from by kernel_rfl]; intro u hu; simp at hu; rcases hu with rfl | rfl <;> rfl
theorem zeros_letter : (Builtin.zeroCells noLetter.cells 1).toList = [.int .i64 0, .int .i64 0, .slice none 0 0] := by kernel_rfl

set_option maxHeartbeats 1000000 in
/-- slices.Delete of one letter: the row moves up in place. -/
theorem delete_one (g n cap k : Nat) (cs : List Value) (w : World) (hown : w.ownsRow 0 35 3 (.slice (some ⟨g, 0, none⟩) n cap) n cs) (h1c : ∀ u ∈ cs, u.oneCell' = true) (hk : k < n) :
    Calls Try.prog 23 #[.slice (some ⟨g, 0, none⟩) n cap, .int .i64 k, .int .i64 (k + 1)] w fun e w' => e = .returned (.slice (some ⟨g, 0, none⟩) (n - 1) cap) ∧
      w'.ownsRow 0 35 3 (.slice (some ⟨g, 0, none⟩) (n - 1) cap) (n - 1) (cs.take (k * 3) ++ cs.drop ((k + 1) * 3)) ∧ Fr (fun b => b = g) w w' := by
  have h0 := hown
  rcases h0.2 with ⟨h1, _⟩ | ⟨g', cap', cur, h1, _, hg, hnc, hcm, hcs, htake⟩
  · cases h1
  injection h1 with h1 h2 h3
  injection h1 with h1
  injection h1 with h1
  subst h1 h3
  obtain ⟨j, rfl⟩ : ∃ j, n = j + 1 := ⟨n - 1, by omega⟩
  rw [show j + 1 - 1 = j from rfl]
  have hcsl : cs.length = (j + 1) * 3 := hown.1
  have hcurl : cur.toList.length = cap * 3 := by simpa using hcs
  obtain ⟨i0, hi, hz0, hz1, hz2⟩ := info_parts info_letter
  have hm : cap ≤ 9223372036854775807 := by simpa [maxLen] using hcm
  have hne : ((k : Int) == (k : Int) + 1) = false := by simp; omega
  have hk1 : (k : Int) + 1 ≤ (j : Int) + 1 := by omega
  have hk2 : (k : Int) + 1 ≤ (cap : Int) := by omega
  have hk3 : (k : Int) ≤ (cap : Int) := by omega
  have hk4 : (j : Int) + 1 ≤ (cap : Int) := by omega
  have hk5 : (k : Int) ≤ (j : Int) + 1 := by omega
  have hdl : (cs.drop ((k + 1) * 3)).length = (j - k) * 3 := by rw [List.length_drop, hcsl]; omega
  have hd1 : ∀ u ∈ cs.drop ((k + 1) * 3), u.oneCell' = true := fun u hu => h1c u (List.mem_of_mem_drop hu)
  have hcell : ∀ i u, (cs.drop ((k + 1) * 3))[i]? = some u → w.drew.cell? ⟨g, (k + 1) * 3 + i, none⟩ = some u := fun i u hu => by
    rw [List.getElem?_drop] at hu
    have := hown.cellAt ((k + 1) * 3 + i) (by have := (List.getElem?_eq_some_iff.1 hu).1; omega)
    exact this.trans hu
  have Hcs := Lib.hid hcs
  have Htake := Lib.hid htake
  have Hg : Blk w g _ _ := hg
  have Hcsl := Lib.hid hcsl
  have Hcurl := Lib.hid hcurl
  have Hdl := Lib.hid hdl
  have Hown := Lib.hid hown
  have Hcell := Lib.hid hcell
  clear hg hcs htake h2 hcsl hcurl hdl hown hcell
  go_enter Try.func23, Try.ntmps23
  go_wp2_with fail
  refine wp_region_plan [.take 0, .take 1, .take 2, .take 3, .take 4, .take 5, .run 6 [], .take 7] [[2, 6, 7], [2, 6, 7], [6, 7], [5, 6, 7], [5, 6, 7], [6, 7], [], []] (by kernel_rfl) (by kernel_rfl) (by decide) (by kernel_rfl) (fun _ _ _ _ _ h => h) ?_
  simp only [planWp, Array.getD_eq_getD_getElem?, List.getElem?_toArray, List.getElem?_cons_succ, List.getElem?_cons_zero, Option.getD_some]
  have hc1 : (cur.toList.take (k * 3) ++ cs.drop ((k + 1) * 3) ++ cur.toList.drop (k * 3 + (cs.drop ((k + 1) * 3)).length)).toArray.size = cap * 3 := by
    rw [List.size_toArray, List.length_append, List.length_append, List.length_take, Hdl.out, List.length_drop, Hcurl.out]; omega
  obtain ⟨C1, hC1⟩ : ∃ C1, C1 = (cur.toList.take (k * 3) ++ cs.drop ((k + 1) * 3) ++ cur.toList.drop (k * 3 + (cs.drop ((k + 1) * 3)).length)).toArray := ⟨_, rfl⟩
  rw [← hC1] at hc1
  have hfin : ∀ W : World, Blk W g 35 (C1.toList.take (j * 3) ++ ([.int .i64 0, .int .i64 0, .slice none 0 0] : List Value) ++ C1.toList.drop (j * 3 + 1 * 3)).toArray →
      W.ownsRow 0 35 3 (.slice (some ⟨g, 0, none⟩) j cap) j (cs.take (k * 3) ++ cs.drop ((k + 1) * 3)) := fun W hW => by
    have hl1 : C1.toList.length = cap * 3 := by simpa using hc1
    refine own_mk hW (by omega) hcm ?_ ?_
    · rw [List.size_toArray, List.length_append, List.length_append, List.length_take, List.length_drop, hl1]; simp; omega
    · show ((C1.toList.take (j * 3) ++ _) ++ _).take (j * 3) = _
      rw [List.append_assoc, List.take_left' (by rw [List.length_take, hl1]; omega), hC1]
      show ((cur.toList.take (k * 3) ++ cs.drop ((k + 1) * 3)) ++ _).take (j * 3) = _
      rw [List.take_left' (by rw [List.length_append, List.length_take, Hdl.out, Hcurl.out]; omega), ← Htake.out, List.take_take, Nat.min_eq_left (by omega)]
  have Hfin := Lib.hid hfin
  have HC1 := Lib.hid hC1
  have Hc1 := Lib.hid hc1
  clear hfin hC1 hc1
  have hlast : ∀ W : World, Blk W g 35 C1 → Fr (fun b => b = g) w W → True := fun _ _ _ => trivial
  by_cases hcap : cap = k + 1
  · subst hcap
    have hkj : k = j := by omega
    subst hkj
    repeat (first | ((with_reducible refine And.intro ?_ ?_); first | exact trivial | rfl) | ((fail_if_success at_builtin); go_step))
    refine wpList_append_room _ rfl _ _ _ rfl 35 i0 3 Try.underlying54 hi hz1 g k _ cur Hg rfl ⟨g, 0, none⟩ 0 0 (cs.drop ((k + 1) * 3)) rfl (by rw [Hdl.out]; omega) (fun i u hu => by have := (List.getElem?_eq_some_iff.1 hu).1; rw [Hdl.out] at this; omega) hd1 (by omega) (by rw [Hdl.out]; have := Hcs.out; omega) ?_
    rw [← HC1.out]
    simp only [Nat.add_zero]
    intro w1 hB1 hg1 hz1'
    repeat (first | ((with_reducible refine And.intro ?_ ?_); first | exact trivial | rfl) | (refine wpList_clear_row _ rfl (.tmp 31) _ rfl 35 noLetter Try.underlying54 (zero_letter _) g (k * 3) 1 _ C1 hB1 rfl (by decide) zeros_one (by rw [cells_letter]; have := Hc1.out; omega) ?_) | go_step)
    intro w2 hB2 hg2 hz2'
    rw [cells_letter, zeros_letter] at hB2
    repeat (first | ((with_reducible refine And.intro ?_ ?_); first | exact trivial | rfl) | go_step)
    go_ret
    exact ⟨rfl, Hfin.out _ hB2, ((Fr.refl _ w).drew.grown hg1 (fun b e => by cases e; exact .inl rfl)).grown hg2 (fun b e => by cases e; exact .inl rfl)⟩

  · have hcap' : (cap == k + 1) = false := by simp; exact hcap
    repeat (first | ((with_reducible refine And.intro ?_ ?_); first | exact trivial | rfl) | ((fail_if_success at_builtin); go_step))
    refine wpList_append_room _ rfl _ _ _ rfl 35 i0 3 Try.underlying54 hi hz1 g k _ cur Hg rfl ⟨g, (k + 1) * 3, none⟩ (j - k) _ (cs.drop ((k + 1) * 3)) rfl Hdl.out (fun i u hu => ?_) hd1 (by omega) (by rw [Hdl.out, Hcs.out]; omega) ?_
    · have := Hcell.out i u hu
      rwa [show (⟨g, (k + 1) * 3, none⟩ : Addr).add i = ⟨g, (k + 1) * 3 + i, none⟩ from by unfold Addr.add; split <;> simp_all]
    rw [← HC1.out]
    intro w1 hB1 hg1 hz1'
    have hkj : k + (j - k) = j := by omega
    rw [hkj]
    clear hkj
    repeat (first | ((with_reducible refine And.intro ?_ ?_); first | exact trivial | rfl) | (refine wpList_clear_row _ rfl (.tmp 31) _ rfl 35 noLetter Try.underlying54 (zero_letter _) g (j * 3) 1 _ C1 hB1 rfl (by decide) zeros_one (by rw [cells_letter]; have := Hc1.out; omega) ?_) | go_step)
    intro w2 hB2 hg2 hz2'
    rw [cells_letter, zeros_letter] at hB2
    repeat (first | ((with_reducible refine And.intro ?_ ?_); first | exact trivial | rfl) | go_step)
    go_ret
    exact ⟨rfl, Hfin.out _ hB2, ((Fr.refl _ w).drew.grown hg1 (fun b e => by cases e; exact .inl rfl)).grown hg2 (fun b e => by cases e; exact .inl rfl)⟩

theorem take_none (p : Nat) (L : List Letter) (F : Nat → Prop) (k : Int) (w : World) (h : NetAt w p L F) (hk : k < 0 ∨ L.length ≤ k) :
    Calls Try.prog 11 #[.pointer (some ⟨p, 0, none⟩), .int .i64 k] w fun e w' => e = .returned (.tuple #[noLetter, .int .i64 1]) ∧ Fr nowhere w w' := by
  have hlk := look_none p L F k (w.alloc (.cells #[.int .i64 0, .int .i64 0, .slice none 0 0] 35)) (h.same (by simp) (fun b hb => hp_new _ _ _ (h.lt b hb))) hk
  have H := Lib.hid hlk
  unfold noLetter at H
  clear hlk h hk
  unfold noLetter
  go_enter Try.func11, Try.ntmps11
  go_wp2_with fail
  refine H.out.mono ?_
  rintro e w1 ⟨rfl, hf1⟩
  have b1 : Blk w1 w.heap.size _ _ := (Blk.new w _ _).same (hf1.block _ (by simp) id)
  obtain ⟨r0, r1, r2, rf0, rf1, rf2⟩ := b1.facts3
  have hz1 := b1.lt
  go_wp2
  have hf0 : Fr nowhere w w1 := Fr.trans (Fr.alloc (Fr.refl _ _) _) hf1 (fun _ _ e => e)
  exact bodyPost_ret (v := .tuple #[.agg #[.int .i64 0, .int .i64 0, .slice none 0 0], .int .i64 1]) (by simp [results, Try.results11, go_sem, *]) rfl ⟨rfl, by (repeat (first | exact Fr.refl _ _ | assumption | refine Fr.setCell ?_ (by first | (right; omega) | (right; simp; done) | (right; simp; omega) | (left; simp; done) | (left; simp; omega) | (left; dsimp only; omega)) _ | refine Fr.alloc ?_ _ | refine Fr.drew ?_ | refine Fr.setRow ?_ (by first | (right; omega) | (right; simp; done) | (right; simp; omega) | (left; simp; done) | (left; simp; omega) | (left; dsimp only; omega)) _))⟩

theorem toN_erase (L : List Letter) (k : Nat) (x : Letter) (hk : L[k]? = some x) (to : Int) : toN L to = toN (L.eraseIdx k) to + if x.t = to then 1 else 0 := by
  induction L generalizing k with
  | nil => simp at hk
  | cons y L ih =>
    cases k with
    | zero =>
      simp at hk
      subst hk
      simp only [toN, List.eraseIdx_cons_zero, List.filter_cons]
      split <;> simp_all
    | succ k =>
      simp at hk
      have := ih k hk
      simp only [toN, List.eraseIdx_cons_succ, List.filter_cons] at this ⊢
      split <;> simp [this]; omega

set_option maxHeartbeats 1000000 in
theorem take_some (p : Nat) (L : List Letter) (F : Nat → Prop) (k : Nat) (x : Letter) (w : World) (h : NetAt w p L F) (hk : L[k]? = some x) :
    Calls Try.prog 11 #[.pointer (some ⟨p, 0, none⟩), .int .i64 k] w fun e w' => ∃ A c, e = .returned (.tuple #[.agg #[.int .i64 x.f, .int .i64 x.t, .slice A x.d.length c], .int .i64 0]) ∧
      w'.ownsRow w.heap.size 5 1 (.slice A x.d.length c) x.d.length (x.d.map bcell) ∧ NetAt w' p (L.eraseIdx k) F ∧ Fr F w w' := by
  have hlk := look_some p L F k x (w.alloc (.cells #[.int .i64 0, .int .i64 0, .slice none 0 0] 35)) (h.same (by simp) (fun b hb => hp_new _ _ _ (h.lt b hb))) hk
  have H := Lib.hid hlk
  clear hlk
  have h0 := h
  obtain ⟨A, cap, m, cs, M, hp, hown, hcs, hM, hto, hL, hFp, hFm, hFA, hFl⟩ := h
  have hkl : k < L.length := (List.getElem?_eq_some_iff.1 hk).1
  obtain ⟨g, cap', hA, _, _⟩ := hown.form (by omega)
  have hA : A = some ⟨g, 0, none⟩ := by injection hA
  subst hA
  have h1c : ∀ u ∈ cs, u.oneCell' = true := hcs.all fun y c hy => hy.one
  have hmp := hM.ne_blk hp
  obtain ⟨_, hgb, _⟩ := own_blk hown (g := g) rfl
  have hgp : g ≠ p := hgb.ne_ hp (by decide)
  have hgm : g ≠ m := (hM.ne_blk hgb).symm
  have hgl := hgb.lt
  have hpl := hp.lt
  have hml := hM.lt
  have hFg : F g := hFA _ rfl
  have Hto := Lib.hid hto
  have Hfl := Lib.hid hFl
  have Hk := Lib.hid hk
  have H0 := Lib.hid h0
  have Hhcs := Lib.hid hcs
  generalize hn : L.length = n at hown hkl hp hL
  have Hn := Lib.hid hn
  have hk64 : (k : Int) + 1 ≤ 9223372036854775807 := by omega
  clear hto hFl hFA hk h0 hcs hgb hn
  go_enter Try.func11, Try.ntmps11
  go_wp2_with fail
  refine H.out.mono ?_
  rintro e w1 ⟨A', c', rfl, ho, hf1⟩
  have b1 : Blk w1 w.heap.size _ _ := (Blk.new w _ _).same (hf1.block _ (by simp) id)
  obtain ⟨r0, r1, r2, rf0, rf1, rf2⟩ := b1.facts3
  have hz1 := b1.lt
  have hf01 : Fr nowhere w w1 := Fr.trans (Fr.alloc (Fr.refl _ _) _) hf1 (fun _ _ e => e)
  have hp1 : Blk w1 p _ _ := hp.fr hf01 id
  obtain ⟨q0, q1, qf0, qf1⟩ := hp1.facts2
  have hpl1 := hp1.lt
  clear b1
  go_wp2_with fail
  refine (delete_one g n cap k cs _ ?_ h1c hkl).mono ?_
  · exact own_same hown fun b hb _ hlt => by
      simp [Value.ownBlock] at hb
      subst hb
      simp (disch := omega) only [hp_new]
      rw [hf01.block _ hlt id]
  rintro e w2 ⟨rfl, hown2, hf2⟩
  have hf12 : Fr (fun b => b = g) w1 w2 := by
    refine Fr.trans ?_ hf2 (fun _ _ e => e)
    repeat (first | exact Fr.refl _ _ | refine Fr.setCell ?_ (.inr (by simp)) _ | refine Fr.alloc ?_ _ | refine Fr.drew ?_)
  have b2 : Blk w2 w1.heap.size 35 #[.int .i64 x.f, .int .i64 x.t, .slice A' x.d.length c'] := by
    refine Blk.same ?_ (hf2.block _ (by simp) (by omega))
    exact Blk.new w1 _ _
  obtain ⟨u0, u1, u2, uf0, uf1, uf2⟩ := b2.facts3
  have hp2 : Blk w2 p _ _ := hp1.fr hf12 (by omega)
  obtain ⟨s0, s1, sf0, sf1⟩ := hp2.facts2
  have hpl2 := hp2.lt
  clear q0 q1 qf0 qf1 r0 r1 r2 rf0 rf1 rf2
  have b3 : Blk w2 w.heap.size _ _ := (((Blk.new w _ _).fr hf1 id)).fr hf12 (by omega)
  obtain ⟨r0, r1, r2, rf0, rf1, rf2⟩ := b3.facts3
  go_wp2_with fail
  generalize hW3 : w2.setCell ⟨p, 0, none⟩ (.slice (some ⟨g, 0, none⟩) (n - 1) cap) = W3
  have hp3 : Blk W3 p 56 #[.slice (some ⟨g, 0, none⟩) (n - 1) cap, .map (some m)] := by rw [← hW3]; exact hp2.set_ 0 _
  have hf23 : Fr (fun b => b = p) w2 W3 := by rw [← hW3]; exact Fr.setCell (F := fun b => b = p) (Fr.refl _ _) (p := ⟨p, 0, none⟩) (.inl rfl) _
  have hz3 : W3.heap.size = w2.heap.size := by rw [← hW3, hsz_set]
  have b4 : Blk W3 w1.heap.size _ _ := b2.fr hf23 (by omega)
  have b5 : Blk W3 w.heap.size _ _ := b3.fr hf23 (by omega)
  have hown3 := own_same hown2 (w' := W3) (fun b hb _ hlt => by simp [Value.ownBlock] at hb; subst hb; exact hf23.block _ hlt hgp)
  have hfm : W3.heap[m]? = w.heap[m]? := by
    have hz := hf01.size
    have hz2 := hf12.size
    rw [hf23.block m (by omega) hmp, hf12.block m (by omega) (Ne.symm hgm), hf01.block m hml id]
  have hM3 : MapL intKey W3.drew m M := hM.same hfm
  have hlk := run_lookup hM3 (P := Try.prog) Try.underlying53 Try.underlying3 zero_int x.t false
  rw [Hto.out x.t] at hlk
  simp only [Bool.false_eq_true, if_false] at hlk
  have hte := toN_erase L k x Hk.out x.t
  rw [if_pos rfl] at hte
  have htl := toN_le L x.t
  rw [Hn.out] at htl
  obtain ⟨T, hT⟩ : ∃ T, toN (L.eraseIdx k) x.t = T := ⟨_, rfl⟩
  rw [hT] at hte
  rw [hte] at hlk htl
  have HT := Lib.hid hT
  clear hT hte
  obtain ⟨w4, hup, hM4, hg4, hs4⟩ := run_update hM3 (P := Try.prog) Try.underlying53 Try.underlying3 x.t (.int .i64 T)
  clear s0 s1 sf0 sf1 u0 u1 u2 uf0 uf1 uf2 r0 r1 r2 rf0 rf1 rf2
  obtain ⟨s0, s1, sf0, sf1⟩ := hp3.facts2
  obtain ⟨u0, u1, u2, uf0, uf1, uf2⟩ := b4.facts3
  simp only [intKey] at hlk hup
  refine wp_region_plan [.take 0, .take 1, .take 2, .take 3, .take 4, .take 5, .take 6, .take 7, .run 8 []] [[1, 2, 3, 6, 7, 8], [2, 3, 6, 7, 8], [3, 6, 7, 8], [6, 7, 8], [5, 6, 7, 8], [6, 7, 8], [7, 8], [8], []] (by kernel_rfl) (by kernel_rfl) (by decide) (by kernel_rfl) (fun _ _ _ _ _ h => h) ?_
  simp only [planWp, Array.getD_eq_getD_getElem?, List.getElem?_toArray, List.getElem?_cons_succ, List.getElem?_cons_zero, Option.getD_some]
  have b6 : Blk w4 w1.heap.size _ _ := b4.drew.grown hg4 (by simp; omega)
  have b7 : Blk w4 w.heap.size _ _ := b5.drew.grown hg4 (by simp; omega)
  obtain ⟨x0, x1, x2, xf0, xf1, xf2⟩ := b6.facts3
  obtain ⟨y0, y1, y2, yf0, yf1, yf2⟩ := b7.facts3
  repeat (first | ((with_reducible refine And.intro ?_ ?_); first | exact trivial | rfl) | go_step)
  have hf14 : Fr (fun b => b = g ∨ b = p ∨ b = m) w1 w4 := by
    refine Fr.grown (Fr.drew (Fr.trans (hf12.mono (F' := fun b => b = g ∨ b = p ∨ b = m) (fun b _ e => .inl e)) hf23 (fun b _ e => .inr (.inl e)))) hg4 (fun b e => .inl (.inr (.inr ?_)))
    cases e; rfl
  generalize hW5 : ((w4.setCell ⟨w.heap.size, 0, none⟩ (.int .i64 x.f)).setCell ⟨w.heap.size, 1, none⟩ (.int .i64 x.t)).setCell ⟨w.heap.size, 2, none⟩ (.slice A' x.d.length c') = w5
  have hf45 : Fr (fun b => b = w.heap.size) w4 w5 := by
    rw [← hW5]
    exact Fr.setCell (Fr.setCell (Fr.setCell (F := fun b => b = w.heap.size) (Fr.refl _ _) (p := ⟨w.heap.size, 0, none⟩) (.inl rfl) _) (p := ⟨w.heap.size, 1, none⟩) (.inl rfl) _) (p := ⟨w.heap.size, 2, none⟩) (.inl rfl) _
  have b8 : Blk w5 w.heap.size 35 #[.int .i64 x.f, .int .i64 x.t, .slice A' x.d.length c'] := by
    rw [← hW5]
    exact ((b7.set_ 0 _).set_ 1 _).set_ 2 _
  have hf15 : Fr (fun b => b = g ∨ b = p ∨ b = m ∨ b = w.heap.size) w1 w5 := Fr.trans (hf14.mono (F' := fun b => b = g ∨ b = p ∨ b = m ∨ b = w.heap.size) (fun b _ e => by rcases e with e | e | e <;> simp [e])) hf45 (fun b _ e => by simp [e])
  have hf05 : Fr (fun b => b = g ∨ b = p ∨ b = m) w w5 := ⟨hf15.os.trans hf01.os, hf15.tape.trans hf01.tape, hf15.output.trans hf01.output, Nat.le_trans hf01.size hf15.size, fun b hb hn => by
    have hz := hf01.size
    rw [hf15.block b (by omega) (by rintro (e | e | e | e) <;> first | omega | exact hn (by simp [e])), hf01.block b hb id]⟩
  obtain ⟨z0, z1, z2, _, _, _⟩ := b8.facts3
  clear x0 x1 x2 xf0 xf1 xf2 y0 y1 y2 yf0 yf1 yf2 hlk hup s0 s1 sf0 sf1 u0 u1 u2 uf0 uf1 uf2
  have hz14 := hf14.size
  have hz45 := hf45.size
  have hlen : (L.eraseIdx k).length = n - 1 := by rw [List.length_eraseIdx, if_pos (by have := Hn.out; omega), Hn.out]
  refine bodyPost_ret (v := .tuple #[.agg #[.int .i64 x.f, .int .i64 x.t, .slice A' x.d.length c'], .int .i64 0]) (by simp [results, Try.results11, go_sem, *]) rfl ⟨A', c', rfl, ?_, ?_, ?_⟩
  · refine own_base (own_same ho fun b _ hb hlt => ?_) (fun b _ hb => ?_)
    · simp at hb
      exact hf15.block b hlt (by rintro (e | e | e | e) <;> omega)
    · simp at hb; omega
  · refine ⟨some ⟨g, 0, none⟩, cap, m, cs.take (k * 3) ++ cs.drop ((k + 1) * 3), putL x.t (.int .i64 T) M, ?_, ?_, ?_, ?_, ?_, ?_, hFp, hFm, ?_, ?_⟩
    · rw [hlen]
      exact (hp3.drew.grown hg4 (by simp; exact Ne.symm hmp)).fr hf45 (by omega)
    · rw [hlen]
      refine own_same hown3 fun b hb _ hlt => ?_
      simp [Value.ownBlock] at hb
      subst hb
      rw [hf45.block _ (by omega) (by omega)]
      exact hg4.block _ hlt (by simp; exact hgm)
    · have hsp := fun i => RowsL.split (k := 3) (fun y c hy => by obtain ⟨_, _, _, rfl, _⟩ := hy; rfl) Hhcs.out i
      rw [List.eraseIdx_eq_take_drop_succ]
      refine (RowsL.app (hsp k).1 (hsp (k + 1)).2).mono fun y c _ hy => ?_
      refine LetterR.fr hy hf05 (fun b hb _ => ?_)
      rintro (e | e | e)
      · exact hb.2.2.2 (by simp [e])
      · exact hb.2.1 e
      · exact hb.2.2.1 e
    · exact hM4.fr hf45 (by omega)
    · intro to
      rw [findL_putL]
      by_cases e : to = x.t
      · subst e; rw [if_pos rfl, HT.out]; rfl
      · rw [if_neg e, Hto.out to, toN_erase L k x Hk.out to, if_neg (fun e' => e e'.symm)]; rfl
    · rw [hlen]; omega
    · intro a ha
      cases ha
      exact hFg
    · intro b hb
      have := Hfl.out b hb
      have := hf05.size
      omega
  · exact hf05.mono fun b _ hb => by
      rcases hb with rfl | rfl | rfl
      · exact hFg
      · exact hFp
      · exact hFm
theorem drop_any (p : Nat) (L : List Letter) (F : Nat → Prop) (k : Int) (w : World) (h : NetAt w p L F) :
    Calls Try.prog 15 #[.pointer (some ⟨p, 0, none⟩), .int .i64 k] w fun e w' => e = .returned (.int .i64 (if 0 ≤ k ∧ k < L.length then 0 else 1)) ∧
      NetAt w' p (if 0 ≤ k ∧ k < L.length then L.eraseIdx k.toNat else L) F ∧ Fr F w w' := by
  by_cases hk : 0 ≤ k ∧ k < L.length
  · rw [if_pos hk, if_pos hk]
    obtain ⟨k, rfl⟩ : ∃ n : Nat, k = n := ⟨k.toNat, by omega⟩
    obtain ⟨x, hx⟩ : ∃ x, L[k]? = some x := ⟨_, List.getElem?_eq_getElem (by omega)⟩
    have H := Lib.hid (take_some p L F k _ w h hx)
    rw [Int.toNat_natCast]
    clear h hk hx
    go_enter Try.func15, Try.ntmps15
    go_wp2_with (go_at_call 11; refine H.out.mono ?_; rintro e w1 ⟨A', c', rfl, ho, hn, hf⟩)
    go_ret
    refine ⟨rfl, hn.same (by simp) fun b hb => hp_new _ _ _ (hn.lt b hb), ?_⟩
    (repeat (first | exact Fr.refl _ _ | assumption | refine Fr.setCell ?_ (by first | (right; omega) | (right; simp; done) | (right; simp; omega) | (left; simp; done) | (left; simp; omega) | (left; dsimp only; omega)) _ | refine Fr.alloc ?_ _ | refine Fr.drew ?_ | refine Fr.setRow ?_ (by first | (right; omega) | (right; simp; done) | (right; simp; omega) | (left; simp; done) | (left; simp; omega) | (left; dsimp only; omega)) _))
  · rw [if_neg hk, if_neg hk]
    have H := Lib.hid (take_none p L F k w h (by omega))
    unfold noLetter at H
    have H0 := Lib.hid h
    clear h hk
    go_enter Try.func15, Try.ntmps15
    go_wp2_with (go_at_call 11; refine H.out.mono ?_; rintro e w1 ⟨rfl, hf⟩)
    go_ret
    have hf0 : Fr nowhere w w1 := hf
    exact ⟨rfl, H0.out.fr (F' := nowhere) (by (repeat (first | exact Fr.refl _ _ | assumption | refine Fr.setCell ?_ (by first | (right; omega) | (right; simp; done) | (right; simp; omega) | (left; simp; done) | (left; simp; omega) | (left; dsimp only; omega)) _ | refine Fr.alloc ?_ _ | refine Fr.drew ?_ | refine Fr.setRow ?_ (by first | (right; omega) | (right; simp; done) | (right; simp; omega) | (left; simp; done) | (left; simp; omega) | (left; dsimp only; omega)) _))) (fun _ _ => id), Fr.mono (F := nowhere) (by (repeat (first | exact Fr.refl _ _ | assumption | refine Fr.setCell ?_ (by first | (right; omega) | (right; simp; done) | (right; simp; omega) | (left; simp; done) | (left; simp; omega) | (left; dsimp only; omega)) _ | refine Fr.alloc ?_ _ | refine Fr.drew ?_ | refine Fr.setRow ?_ (by first | (right; omega) | (right; simp; done) | (right; simp; omega) | (left; simp; done) | (left; simp; omega) | (left; dsimp only; omega)) _))) (fun _ _ e => e.elim)⟩

/-- What a Double answers. -/
def doubleWhy (L : List Letter) (k : Int) : Int := if 0 ≤ k ∧ k < L.length then (if 10000 ≤ L.length then 4 else 0) else 1
def doubleL (L : List Letter) (k : Int) : List Letter := if doubleWhy L k = 0 then L ++ [L.getD k.toNat ⟨0, 0, []⟩] else L

set_option maxHeartbeats 1000000 in
theorem double_any (p : Nat) (L : List Letter) (F : Nat → Prop) (k : Int) (w : World) (h : NetAt w p L F) (hd : ∀ x ∈ L, x.d.length ≤ 140737488351232) :
    Calls Try.prog 17 #[.pointer (some ⟨p, 0, none⟩), .int .i64 k] w fun e w' => e = .returned (.int .i64 (doubleWhy L k)) ∧
      ∃ F', NetAt w' p (doubleL L k) F' ∧ Fr F w w' ∧ (∀ b, F' b → F b ∨ w.heap.size ≤ b) := by
  by_cases hk : 0 ≤ k ∧ k < L.length
  · obtain ⟨k, rfl⟩ : ∃ n : Nat, k = n := ⟨k.toNat, by omega⟩
    obtain ⟨x, hx⟩ : ∃ x, L[k]? = some x := ⟨_, List.getElem?_eq_getElem (by omega)⟩
    have hlk := look_some p L F k _ w h hx
    have H := Lib.hid hlk
    have H0 := Lib.hid h
    have hdk := hd x (List.mem_of_getElem? hx)
    have hgd : L.getD k ⟨0, 0, []⟩ = x := by rw [List.getD_eq_getElem?_getD, hx]; rfl
    by_cases hr : 10000 ≤ L.length
    · have e1 : doubleWhy L k = 4 := by unfold doubleWhy; rw [if_pos hk, if_pos hr]
      have e2 : doubleL L k = L := by unfold doubleL; rw [e1]; rfl
      rw [e1, e2]
      have Hr := Lib.hid hr
      clear h hk hx e1 e2 hlk hgd hr
      go_enter Try.func17, Try.ntmps17
      go_wp2_with fail
      refine H.out.mono ?_
      rintro e w1 ⟨A', c', rfl, ho, hf⟩
      have hz := hf.size
      go_wp2_with fail
      refine (put_full p L F x.f x.t _ _ ?_ Hr.out).mono ?_
      · refine (H0.out.fr hf (fun _ _ => id)).same (by simp) fun b hb => ?_
        have := H0.out.lt b hb
        simp (disch := omega) only [hp_new]
      rintro e w2 ⟨rfl, hf2⟩
      go_wp2_with fail
      go_ret
      have hf02 : Fr nowhere w w2 := by
        refine Fr.trans ?_ hf2 (fun _ _ e => e)
        (repeat (first | exact Fr.refl _ _ | assumption | refine Fr.setCell ?_ (by first | (right; omega) | (right; simp; done) | (right; simp; omega) | (left; simp; done) | (left; simp; omega) | (left; dsimp only; omega)) _ | refine Fr.alloc ?_ _ | refine Fr.drew ?_ | refine Fr.setRow ?_ (by first | (right; omega) | (right; simp; done) | (right; simp; omega) | (left; simp; done) | (left; simp; omega) | (left; dsimp only; omega)) _))
      exact ⟨rfl, F, H0.out.fr hf02 (fun _ _ => id), hf02.mono (fun _ _ e => e.elim), fun _ => .inl⟩
    · have e1 : doubleWhy L k = 0 := by unfold doubleWhy; rw [if_pos hk, if_neg hr]
      have e2 : doubleL L k = L ++ [x] := by unfold doubleL; rw [e1, if_pos rfl, Int.toNat_natCast, hgd]
      rw [e1, e2]
      have Hr := Lib.hid (Nat.lt_of_not_le hr)
      clear h hk hx e1 e2 hlk hgd hr
      go_enter Try.func17, Try.ntmps17
      go_wp2_with fail
      refine H.out.mono ?_
      rintro e w1 ⟨A', c', rfl, ho, hf⟩
      have hz := hf.size
      go_wp2_with fail
      refine (put_room p L F x.f x.t _ x.d (fun _ => True) _ ?_ ?_ hdk Hr.out).mono ?_
      · refine (H0.out.fr hf (fun _ _ => id)).same (by simp) fun b hb => ?_
        have := H0.out.lt b hb
        simp (disch := omega) only [hp_new]
      · refine (Sl.of_own (G := fun b => b < w1.heap.size) ho (fun g hg => by obtain ⟨_, hb', _⟩ := own_blk ho hg; exact hb'.lt)).same (by simp) (fun b hb _ => ?_) |>.mono (fun _ _ _ => trivial)
        simp (disch := omega) only [hp_new]
      rintro e w2 ⟨rfl, F', hn, hf2, hF'⟩
      go_wp2_with fail
      go_ret
      refine ⟨rfl, F', hn, Fr.trans (F' := F) ?_ hf2 (fun _ _ e => e), fun b hb => (hF' b hb).imp id (fun h => ?_)⟩
      · have hf0 : Fr F w w1 := hf.mono (fun _ _ e => e.elim)
        (repeat (first | exact Fr.refl _ _ | assumption | refine Fr.setCell ?_ (by first | (right; omega) | (right; simp; done) | (right; simp; omega) | (left; simp; done) | (left; simp; omega) | (left; dsimp only; omega)) _ | refine Fr.alloc ?_ _ | refine Fr.drew ?_ | refine Fr.setRow ?_ (by first | (right; omega) | (right; simp; done) | (right; simp; omega) | (left; simp; done) | (left; simp; omega) | (left; dsimp only; omega)) _))
      · simp at h; omega
  · have e1 : doubleWhy L k = 1 := by unfold doubleWhy; rw [if_neg hk]
    have e2 : doubleL L k = L := by unfold doubleL; rw [e1]; rfl
    rw [e1, e2]
    have H := Lib.hid (look_none p L F k w h (by omega))
    unfold noLetter at H
    have H0 := Lib.hid h
    clear h hk e1 e2 hd
    go_enter Try.func17, Try.ntmps17
    go_wp2_with fail
    refine H.out.mono ?_
    rintro e w1 ⟨rfl, hf⟩
    go_wp2
    go_ret
    have hf0 : Fr nowhere w w1 := hf
    refine ⟨rfl, F, H0.out.fr (F' := nowhere) (by (repeat (first | exact Fr.refl _ _ | assumption | refine Fr.setCell ?_ (by first | (right; omega) | (right; simp; done) | (right; simp; omega) | (left; simp; done) | (left; simp; omega) | (left; dsimp only; omega)) _ | refine Fr.alloc ?_ _ | refine Fr.drew ?_ | refine Fr.setRow ?_ (by first | (right; omega) | (right; simp; done) | (right; simp; omega) | (left; simp; done) | (left; simp; omega) | (left; dsimp only; omega)) _))) (fun _ _ => id), Fr.mono (F := nowhere) (by (repeat (first | exact Fr.refl _ _ | assumption | refine Fr.setCell ?_ (by first | (right; omega) | (right; simp; done) | (right; simp; omega) | (left; simp; done) | (left; simp; omega) | (left; dsimp only; omega)) _ | refine Fr.alloc ?_ _ | refine Fr.drew ?_ | refine Fr.setRow ?_ (by first | (right; omega) | (right; simp; done) | (right; simp; omega) | (left; simp; done) | (left; simp; omega) | (left; dsimp only; omega)) _))) (fun _ _ e => e.elim), fun _ => .inl⟩

theorem new_any (w : World) : Calls Try.prog 7 #[] w fun e w' => ∃ p, e = .returned (.pointer (some ⟨p, 0, none⟩)) ∧ (∃ F, NetAt w' p [] F ∧ ∀ b, F b → w.heap.size ≤ b) ∧ Fr nowhere w w' := by
  have hmm := @run_makeMap Try.prog
  go_enter Try.func7, Try.ntmps7
  go_wp2
  go_ret
  refine ⟨_, rfl, ⟨fun b => w.heap.size ≤ b ∧ b < w.heap.size + 2, ⟨none, 0, w.heap.size, [], [], ?_, World.ownsRow_nil _ _ _ _, rfl, ?_, ?_, ?_, ?_, ?_, ?_, ?_⟩, fun b hb => hb.1⟩, ?_⟩
  · exact Blk.newAt (by simp)
  · exact (MapL.new intKey w).same (hp_new _ _ _ (by simp))
  · intro to; rfl
  · simp
  · constructor <;> omega
  · constructor <;> omega
  · intro a ha; cases ha
  · intro b hb; simp; omega
  · (repeat (first | exact Fr.refl _ _ | assumption | refine Fr.setCell ?_ (by first | (right; omega) | (right; simp; done) | (right; simp; omega) | (left; simp; done) | (left; simp; omega) | (left; dsimp only; omega)) _ | refine Fr.alloc ?_ _ | refine Fr.drew ?_ | refine Fr.setRow ?_ (by first | (right; omega) | (right; simp; done) | (right; simp; omega) | (left; simp; done) | (left; simp; omega) | (left; dsimp only; omega)) _))

theorem len_any (p : Nat) (L : List Letter) (F : Nat → Prop) (w : World) (h : NetAt w p L F) :
    Calls Try.prog 10 #[.pointer (some ⟨p, 0, none⟩)] w fun e w' => e = .returned (.int .i64 L.length) ∧ w = w' := by
  obtain ⟨A, cap, m, cs, M, hp, _⟩ := h
  obtain ⟨hp0, hp1, hpf0, hpf1⟩ := hp.facts2
  generalize L.length = n at *
  go_enter Try.func10, Try.ntmps10
  go_wp2
  go_ret
  exact ⟨rfl, rfl⟩
set_option maxHeartbeats 1000000 in
theorem to_any (p : Nat) (L : List Letter) (F : Nat → Prop) (to : Int) (w : World) (h : NetAt w p L F) :
    Calls Try.prog 9 #[.pointer (some ⟨p, 0, none⟩), .int .i64 to] w fun e w' => e = .returned (.int .i64 (toN L to)) ∧ Fr nowhere w w' := by
  obtain ⟨A, cap, m, cs, M, hp, hown, hcs, hM, hto, hL, hFp, hFm, hFA, hFl⟩ := h
  obtain ⟨hp0, hp1, hpf0, hpf1⟩ := hp.facts2
  have Hto := Lib.hid hto
  have hml := hM.lt
  have hint : ∀ y ∈ M, ∃ n : Int, y.2 = .int .i64 n := fun y hy => by
    obtain ⟨_, _, _, _, _, _, hnd⟩ := hM
    have h1 := hto y.1
    rw [findL_mem hnd hy] at h1
    exact ⟨_, h1⟩
  have Hint := Lib.hid hint
  clear hto hcs hFl hown hint
  go_enter Try.func9, Try.ntmps9
  go_wp2_with (at_range; refine wpList_rangeL rfl (.tmp 12) 53 rfl hM Try.underlying53 rfl ?_; intro w0 hit hg0 hz0; go_frame)
  go_loopw [5, 6, 14, 15, 16, 17, 18, 19, 20, 21] (fun _ _ _ _ _ _ _ _ _ _ wr => ∃ done, IterL intKey wr w.heap.size m M done ∧ (∀ y ∈ M, y.1 ∈ done → y.1 ≠ to) ∧ Fr nowhere w wr) (fun _ _ _ _ _ _ _ _ _ _ wr => iterLeft m w.heap.size wr)
  case atStart => exact ⟨[], hit, by simp, (Fr.refl _ _).grown hg0 (by simp)⟩
  case round =>
    obtain ⟨done, hit', hne, hfr⟩ := hrel
    have hleft := hit'.left
    have Hl := Lib.hid hleft
    have hrm : w.heap.size ≠ m := by omega
    have Hrm := Lib.hid hrm
    clear hleft hrm
    go_wp2_with (at_next; refine wpList_nextL rfl (.tmp 13) rfl hit' Hrm.out rfl ?hend ?hnext)
    case hend =>
      intro hall
      have Hall := Lib.hid hall
      clear hall
      go_wp2
      go_ret
      refine ⟨?_, hfr⟩
      have h0 := Hto.out to
      have : findL to M = none := by
        rw [findL_none]
        intro hin
        obtain ⟨y, hy, rfl⟩ := List.mem_map.1 hin
        exact hne y hy (Hall.out y.1 y.2 hy) rfl
      rw [this] at h0
      rw [← h0]
      rfl
    case hnext =>
      intro k v w1 hy hyd hit1 hg1 hz1 hen
      obtain ⟨c, hc⟩ := Hint.out _ hy
      dsimp only at hc
      subst hc
      have hfr1 : Fr nowhere w w1 := hfr.grown hg1 (fun g e => by cases e; exact .inr (Nat.le_refl _))
      have Hyd := Lib.hid hyd
      clear hyd
      by_cases heq : k = to
      · have hfin : Value.int .i64 c = .int .i64 (toN L to) := by
          obtain ⟨_, _, _, _, _, _, hnd⟩ := hM
          rw [← Hto.out to, ← heq, findL_mem hnd hy]; rfl
        injection hfin with _ hfin
        subst hfin
        subst heq
        simp only [intKey] at hen ⊢
        go_wp2
        go_ret
        exact ⟨rfl, hfr1⟩
      · have hb : (k == to) = false := by simpa using heq
        have Heq := Lib.hid heq
        clear heq
        simp only [intKey] at hen ⊢
        go_wp2
        go_roundw
        case rel =>
          refine ⟨done ++ [k], hit1, fun y hy' hd => ?_, hfr1⟩
          rcases List.mem_append.1 hd with hd | hd
          · exact hne y hy' hd
          · simp at hd; rw [hd]; exact Heq.out
        case measure =>
          rw [hit1.left, Hl.out]
          have h1 := hit1.sub
          have h2 := hit'.sub
          simp at h1 ⊢
          omega
end Go.Proofs.Ytnfmmfodnhmfaaa
