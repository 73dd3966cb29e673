/- The reference's mover: what it knows; know, Count, step. -/
import Derived.Test.YtglcmlicfmmlpaaMover9
namespace Go.Proofs.Ytglcmlicfmmlpaa
open Go.RowKit

/-- The reference's mover at block g; all its blocks are of G. -/
structure RefAt (w : World) (g : Nat) (s : MS) (G : Nat → Prop) : Prop where
  ex : ∃ A c, (A = none → c = 0) ∧ Blk w g 68 #[.int .i64 s.n, .bool s.data.isSome, .slice A s.bytes.length c, .int .i64 s.at_] ∧ Bs w (fun b => G b ∧ b ≠ g) (.slice A s.bytes.length c) s.bytes
  mem : G g
  lt : ∀ b, G b → b < w.heap.size
  at_le : s.at_ ≤ s.bytes.length
  len : s.bytes.length ≤ 140737488351232
theorem RefAt.fr {w w' : World} {g : Nat} {s : MS} {G F : Nat → Prop} (h : RefAt w g s G) (hf : Fr F w w') (hn : ∀ b, G b → ¬ F b) : RefAt w' g s G := by
  obtain ⟨⟨A, c, hA0, hb, hd⟩, hG, hl, ha, hn'⟩ := h
  exact ⟨⟨A, c, hA0, hb.fr hf (hn g hG), Sl.fr hd hf (fun b hb _ => hn b hb.1)⟩, hG, fun b hb => Nat.lt_of_lt_of_le (hl b hb) hf.size, ha, hn'⟩

set_option maxHeartbeats 1000000 in
theorem refKnow_any (g : Nat) (s : MS) (x : Mv) (G : Nat → Prop) (w : World) (h : RefAt w g s G) :
    Calls Try.prog 68 #[.pointer (some ⟨g, 0, none⟩), movV x] w fun e w' => (∃ v, e = .returned v) ∧ RefAt w' g (mKnow s x) G ∧ Fr (fun b => b = g) w w' := by
  have H := Lib.hid h
  obtain ⟨⟨A, c, hA0, hb, hd⟩, hG, hlt, hat, hlen⟩ := h
  obtain ⟨c0, c1, c2, c3, f0, f1, f2, f3⟩ := hb.facts4
  have hl := hb.lt
  obtain ⟨sn, sd, sa⟩ := s
  obtain ⟨xs, xf, xt, xe, xp, xn⟩ := x
  dsimp only at c0 c1 c2 c3 hb
  generalize MS.bytes ⟨sn, sd, sa⟩ = bs at c2 hb
  have Hlt := Lib.hid hlt
  clear hd hlt hlen hat hA0
  have reset : mKnow ⟨sn, sd, sa⟩ ⟨xs, xf, xt, xe, xp, xn⟩ = ⟨xn, none, 0⟩ → ∀ w', Fr (fun b => b = g) w w' → (∃ cs, Blk w' g 68 cs ∧ cs = #[.int .i64 xn, .bool false, .slice none 0 0, .int .i64 0]) → RefAt w' g (mKnow ⟨sn, sd, sa⟩ ⟨xs, xf, xt, xe, xp, xn⟩) G := fun e w' hf ⟨cs, hb', hcs⟩ => by
    rw [e]
    subst hcs
    exact ⟨⟨none, 0, fun _ => rfl, hb', Sl.nil _ _ _⟩, hG, fun b hb => Nat.lt_of_lt_of_le (Hlt.out b hb) hf.size, Nat.zero_le _, Nat.zero_le _⟩
  have Reset := Lib.hid reset
  clear reset
  by_cases hn : sn = xn
  · subst hn
    by_cases hp : xp = 0
    · subst hp
      go_enter Try.func68, Try.ntmps68
      go_wp2
      refine wp_region_plan [.take 0, .take 1, .take 2, .take 3, .take 4, .take 5, .take 6, .take 7, .take 8, .take 9, .take 10, .take 11] [[1, 2, 3, 6, 7, 8, 9, 10, 11], [2, 3, 6, 7, 8, 9, 10, 11], [3, 6, 7, 8, 9, 10, 11], [6, 7, 8, 9, 10, 11], [5, 6, 7, 8, 9, 10, 11], [6, 7, 8, 9, 10, 11], [7, 8, 9, 10, 11], [8, 9, 10, 11], [9, 10, 11], [10, 11], [11], []] (by kernel_rfl) (by kernel_rfl) (by decide) (by kernel_rfl) (fun _ _ _ _ _ h => h) ?_
      simp only [planWp, Array.getD_eq_getD_getElem?, List.getElem?_toArray, List.getElem?_cons_succ, List.getElem?_cons_zero, Option.getD_some]
      repeat (first | ((with_reducible refine And.intro ?_ ?_); first | exact trivial | rfl) | go_step)
      go_wp2
      go_end0
      exact ⟨⟨_, rfl⟩, Reset.out (if_pos (.inr rfl)) _ (by (repeat (first | exact Fr.refl _ _ | assumption | refine Fr.setCell ?_ (by first | (right; omega) | (right; simp; done) | (right; simp; omega) | (left; simp; done) | (left; simp; omega) | (left; dsimp only; omega)) _ | refine Fr.alloc ?_ _ | refine Fr.drew ?_ | refine Fr.setRow ?_ (by first | (right; omega) | (right; simp; done) | (right; simp; omega) | (left; simp; done) | (left; simp; omega) | (left; dsimp only; omega)) _))) ⟨_, by repeat (first | (with_reducible assumption) | ((with_reducible apply Blk.set_); (case' h => skip)) | ((with_reducible apply Blk.setRow); (case' h => skip)) | ((with_reducible apply Blk.far); (case' hp => (first | (simp; done) | (simp; omega) | omega)); (case' h => skip)) | ((with_reducible apply Blk.farRow); (case' hb => (first | (simp; done) | (simp; omega) | omega)); (case' h => skip)) | (with_reducible apply Blk.drew) | (with_reducible apply Blk.drewN) | ((with_reducible apply Blk.newAt); (first | rfl | (simp; done))) | ((apply Blk.newAt); (first | rfl | (simp; done))) | (with_reducible apply Blk.alloc) | assumption), by rfl⟩, by (repeat (first | exact Fr.refl _ _ | assumption | refine Fr.setCell ?_ (by first | (right; omega) | (right; simp; done) | (right; simp; omega) | (left; simp; done) | (left; simp; omega) | (left; dsimp only; omega)) _ | refine Fr.alloc ?_ _ | refine Fr.drew ?_ | refine Fr.setRow ?_ (by first | (right; omega) | (right; simp; done) | (right; simp; omega) | (left; simp; done) | (left; simp; omega) | (left; dsimp only; omega)) _))⟩
    · have hp' : (xp == 0) = false := by simpa using hp
      have e : mKnow ⟨sn, sd, sa⟩ ⟨xs, xf, xt, xe, xp, sn⟩ = ⟨sn, sd, sa⟩ := if_neg (by simp [hp])
      rw [e]
      clear e hp Reset
      go_enter Try.func68, Try.ntmps68
      go_wp2
      refine wp_region_plan [.take 0, .take 1, .take 2, .take 3, .take 4, .take 5, .take 6, .take 7, .take 8, .take 9, .take 10, .take 11] [[1, 2, 3, 6, 7, 8, 9, 10, 11], [2, 3, 6, 7, 8, 9, 10, 11], [3, 6, 7, 8, 9, 10, 11], [6, 7, 8, 9, 10, 11], [5, 6, 7, 8, 9, 10, 11], [6, 7, 8, 9, 10, 11], [7, 8, 9, 10, 11], [8, 9, 10, 11], [9, 10, 11], [10, 11], [11], []] (by kernel_rfl) (by kernel_rfl) (by decide) (by kernel_rfl) (fun _ _ _ _ _ h => h) ?_
      simp only [planWp, Array.getD_eq_getD_getElem?, List.getElem?_toArray, List.getElem?_cons_succ, List.getElem?_cons_zero, Option.getD_some]
      repeat (first | ((with_reducible refine And.intro ?_ ?_); first | exact trivial | rfl) | go_step)
      go_wp2
      go_end0
      exact ⟨⟨_, rfl⟩, H.out.fr (F := nowhere) (by (repeat (first | exact Fr.refl _ _ | assumption | refine Fr.setCell ?_ (by first | (right; omega) | (right; simp; done) | (right; simp; omega) | (left; simp; done) | (left; simp; omega) | (left; dsimp only; omega)) _ | refine Fr.alloc ?_ _ | refine Fr.drew ?_ | refine Fr.setRow ?_ (by first | (right; omega) | (right; simp; done) | (right; simp; omega) | (left; simp; done) | (left; simp; omega) | (left; dsimp only; omega)) _))) (fun _ _ => id), by (repeat (first | exact Fr.refl _ _ | assumption | refine Fr.setCell ?_ (by first | (right; omega) | (right; simp; done) | (right; simp; omega) | (left; simp; done) | (left; simp; omega) | (left; dsimp only; omega)) _ | refine Fr.alloc ?_ _ | refine Fr.drew ?_ | refine Fr.setRow ?_ (by first | (right; omega) | (right; simp; done) | (right; simp; omega) | (left; simp; done) | (left; simp; omega) | (left; dsimp only; omega)) _))⟩
  · have hn' : (sn != xn) = true := by simpa using hn
    have Hn := Lib.hid hn
    clear hn
    go_enter Try.func68, Try.ntmps68
    go_wp2
    refine wp_region_plan [.take 0, .take 1, .take 2, .take 3, .take 4, .take 5, .take 6, .take 7, .take 8, .take 9, .take 10, .take 11] [[1, 2, 3, 6, 7, 8, 9, 10, 11], [2, 3, 6, 7, 8, 9, 10, 11], [3, 6, 7, 8, 9, 10, 11], [6, 7, 8, 9, 10, 11], [5, 6, 7, 8, 9, 10, 11], [6, 7, 8, 9, 10, 11], [7, 8, 9, 10, 11], [8, 9, 10, 11], [9, 10, 11], [10, 11], [11], []] (by kernel_rfl) (by kernel_rfl) (by decide) (by kernel_rfl) (fun _ _ _ _ _ h => h) ?_
    simp only [planWp, Array.getD_eq_getD_getElem?, List.getElem?_toArray, List.getElem?_cons_succ, List.getElem?_cons_zero, Option.getD_some]
    repeat (first | ((with_reducible refine And.intro ?_ ?_); first | exact trivial | rfl) | go_step)
    go_wp2
    go_end0
    exact ⟨⟨_, rfl⟩, Reset.out (if_pos (.inl Hn.out)) _ (by (repeat (first | exact Fr.refl _ _ | assumption | refine Fr.setCell ?_ (by first | (right; omega) | (right; simp; done) | (right; simp; omega) | (left; simp; done) | (left; simp; omega) | (left; dsimp only; omega)) _ | refine Fr.alloc ?_ _ | refine Fr.drew ?_ | refine Fr.setRow ?_ (by first | (right; omega) | (right; simp; done) | (right; simp; omega) | (left; simp; done) | (left; simp; omega) | (left; dsimp only; omega)) _))) ⟨_, by repeat (first | (with_reducible assumption) | ((with_reducible apply Blk.set_); (case' h => skip)) | ((with_reducible apply Blk.setRow); (case' h => skip)) | ((with_reducible apply Blk.far); (case' hp => (first | (simp; done) | (simp; omega) | omega)); (case' h => skip)) | ((with_reducible apply Blk.farRow); (case' hb => (first | (simp; done) | (simp; omega) | omega)); (case' h => skip)) | (with_reducible apply Blk.drew) | (with_reducible apply Blk.drewN) | ((with_reducible apply Blk.newAt); (first | rfl | (simp; done))) | ((apply Blk.newAt); (first | rfl | (simp; done))) | (with_reducible apply Blk.alloc) | assumption), by rfl⟩, by (repeat (first | exact Fr.refl _ _ | assumption | refine Fr.setCell ?_ (by first | (right; omega) | (right; simp; done) | (right; simp; omega) | (left; simp; done) | (left; simp; omega) | (left; dsimp only; omega)) _ | refine Fr.alloc ?_ _ | refine Fr.drew ?_ | refine Fr.setRow ?_ (by first | (right; omega) | (right; simp; done) | (right; simp; omega) | (left; simp; done) | (left; simp; omega) | (left; dsimp only; omega)) _))⟩
theorem refCount_any (g : Nat) (s : MS) (G : Nat → Prop) (w : World) (h : RefAt w g s G) :
    Calls Try.prog 35 #[.pointer (some ⟨g, 0, none⟩)] w fun e w' => e = .returned (.int .i64 (mHas s)) ∧ w = w' := by
  obtain ⟨⟨A, c, hA0, hb, hd⟩, hG, hlt, hat, hlen⟩ := h
  obtain ⟨c0, c1, c2, c3, f0, f1, f2, f3⟩ := hb.facts4
  have hl := hb.lt
  obtain ⟨sn, sd, sa⟩ := s
  clear hd hlt hat hb hA0
  rcases sd with _ | bs
  · go_enter Try.func35, Try.ntmps35
    go_wp2
    go_ret
    exact ⟨rfl, rfl⟩
  · go_enter Try.func35, Try.ntmps35
    go_wp2
    go_ret
    exact ⟨rfl, rfl⟩
theorem bd_rccmd (n p : Int) (w : World) : (Instr.build 82 #[(0, .int .i64 2), (3, .int .i64 n), (4, .int .i64 p)]).run Try.prog w = .ok (.agg #[.int .i64 2, .int .i64 0, .int .i64 0, .int .i64 n, .int .i64 p]) w := by kernel_rfl
theorem bd_rccmd0 (w : World) : (Instr.build 82 (([] : List (Nat × Value)).toArray)).run Try.prog w = .ok (.agg #[.int .i64 0, .int .i64 0, .int .i64 0, .int .i64 0, .int .i64 0]) w := by kernel_rfl
theorem refStep_any (x : Mv) (w : World) :
    Calls Try.prog 71 #[movV x] w fun e w' => e = .returned (.tuple #[.agg (toldCells x true), .bool true]) ∧ Fr nowhere w w' := by
  go_enter Try.func71, Try.ntmps71
  go_wp2_with (first | ((first | (with_reducible apply wpList_ran) | (with_reducible apply wpListIn_ran (fun _ => trivial)) | (with_reducible apply wp_ran) | (with_reducible apply wpIn_ran (fun _ => trivial))); (case r => ((with_reducible apply ran_bd rfl (bd_rccmd _ _ _)); (first | (case he => exact rfl) | exact rfl))); (try (case hw => rfl))) | ((first | (with_reducible apply wpList_ran) | (with_reducible apply wpListIn_ran (fun _ => trivial)) | (with_reducible apply wp_ran) | (with_reducible apply wpIn_ran (fun _ => trivial))); (case r => ((with_reducible apply ran_st 82 rfl rfl 5 (by kernel_rfl)); (case hx => exact rfl); (case hy => exact rfl); (case hg => (first | ((apply Blk.out); (repeat (first | (with_reducible assumption) | ((with_reducible apply Blk.set_); (case' h => skip)) | ((with_reducible apply Blk.setRow); (case' h => skip)) | ((with_reducible apply Blk.far); (case' hp => (first | (simp; done) | (simp; omega) | omega)); (case' h => skip)) | ((with_reducible apply Blk.farRow); (case' hb => (first | (simp; done) | (simp; omega) | omega)); (case' h => skip)) | (with_reducible apply Blk.drew) | (with_reducible apply Blk.drewN) | ((with_reducible apply Blk.newAt); (first | rfl | (simp; done))) | ((apply Blk.newAt); (first | rfl | (simp; done))) | (with_reducible apply Blk.alloc) | assumption)); done) | (refine hpL0 ?hq; (case hq => (simp; done))) | (refine hpL1 ?hq; (case hq => (simp; done))) | (refine hpL2 ?hq; (case hq => (simp; done))) | (refine hpL3 ?hq; (case hq => (simp; done))) | (refine hpL4 ?hq; (case hq => (simp; done))) | (refine hpL5 ?hq; (case hq => (simp; done))) | (refine hpL6 ?hq; (case hq => (simp; done))))); (case hW => (first | (refine stL0 ?hq; (case hq => (simp; done))) | (refine stL1 ?hq; (case hq => (simp; done))) | (refine stL2 ?hq; (case hq => (simp; done))) | (refine stL3 ?hq; (case hq => (simp; done))) | (refine stL4 ?hq; (case hq => (simp; done))) | (refine stL5 ?hq; (case hq => (simp; done))) | (refine stL6 ?hq; (case hq => (simp; done))) | exact rfl)); (case hc => exact rfl); (case hold => exact rfl); (case h1 => kernel_rfl))); (try (case hw => rfl))))
  refine bodyPost_ret (v := .tuple #[.agg (toldCells x true), .bool true]) (results_cell_tmp rfl _ _ _ 82 _ (0, 0) _ _ rfl rfl ?hg Try.underlying82 rfl (by kernel_rfl)) rfl ⟨rfl, by (repeat (first | exact Fr.refl _ _ | assumption | refine Fr.setCell ?_ (by first | (right; omega) | (right; simp; done) | (right; simp; omega) | (left; simp; done) | (left; simp; omega) | (left; dsimp only; omega)) _ | refine Fr.alloc ?_ _ | refine Fr.drew ?_ | refine Fr.setRow ?_ (by first | (right; omega) | (right; simp; done) | (right; simp; omega) | (left; simp; done) | (left; simp; omega) | (left; dsimp only; omega)) _))⟩
  case hg => (first | ((apply Blk.out); (repeat (first | (with_reducible assumption) | ((with_reducible apply Blk.set_); (case' h => skip)) | ((with_reducible apply Blk.setRow); (case' h => skip)) | ((with_reducible apply Blk.far); (case' hp => (first | (simp; done) | (simp; omega) | omega)); (case' h => skip)) | ((with_reducible apply Blk.farRow); (case' hb => (first | (simp; done) | (simp; omega) | omega)); (case' h => skip)) | (with_reducible apply Blk.drew) | (with_reducible apply Blk.drewN) | ((with_reducible apply Blk.newAt); (first | rfl | (simp; done))) | ((apply Blk.newAt); (first | rfl | (simp; done))) | (with_reducible apply Blk.alloc) | assumption)); done) | (refine hpL0 ?hq; (case hq => (simp; done))) | (refine hpL1 ?hq; (case hq => (simp; done))) | (refine hpL2 ?hq; (case hq => (simp; done))) | (refine hpL3 ?hq; (case hq => (simp; done))) | (refine hpL4 ?hq; (case hq => (simp; done))) | (refine hpL5 ?hq; (case hq => (simp; done))) | (refine hpL6 ?hq; (case hq => (simp; done))))
end Go.Proofs.Ytglcmlicfmmlpaa
