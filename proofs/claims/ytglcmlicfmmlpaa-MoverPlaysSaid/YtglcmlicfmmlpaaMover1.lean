/- A mover: what it knows, plainly; know, Has, At, New. -/
import Derived.Test.YtglcmlicfmmlpaaTxnGiven
import Derived.Test.YtglcmlicfmmlpaaPlanT
namespace Go.Proofs.Ytglcmlicfmmlpaa
open Go.RowKit

/-- A move. -/
structure Mv where
  slot : Int
  src : Int
  dst : Int
  epoch : Int
  phase : Int
  n : Int
abbrev movV (x : Mv) : Value := .agg #[.int .i64 x.slot, .int .i64 x.src, .int .i64 x.dst, .int .i64 x.epoch, .int .i64 x.phase, .int .i64 x.n]
/-- What a mover knows. -/
structure MS where
  n : Int
  data : Option (List UInt8)
  at_ : Nat
def MS.bytes (s : MS) : List UInt8 := s.data.getD []
/-- How many bytes it has. -/
def mHas (s : MS) : Int := match s.data with | none => -1 | some bs => bs.length
def mKnow (s : MS) (x : Mv) : MS := if s.n ≠ x.n ∨ x.phase = 0 then ⟨x.n, none, 0⟩ else s
/-- The mover at block g; all its blocks are of G. -/
structure MovAt (w : World) (g : Nat) (s : MS) (G : Nat → Prop) : Prop where
  ex : ∃ v, Blk w g 134 #[.int .i64 s.n, v, .int .i64 s.at_] ∧ ((s.data = none ∧ v = .slice none 0 0) ∨ ∃ bs A c, s.data = some bs ∧ v = .slice (some A) bs.length c ∧ Bs w (fun b => G b ∧ b ≠ g) v bs ∧ bs.length ≤ 140737488351232)
  mem : G g
  lt : ∀ b, G b → b < w.heap.size
  at_le : s.at_ ≤ s.bytes.length
theorem MovAt.fr {w w' : World} {g : Nat} {s : MS} {G F : Nat → Prop} (h : MovAt w g s G) (hf : Fr F w w') (hn : ∀ b, G b → ¬ F b) : MovAt w' g s G := by
  obtain ⟨⟨v, hb, hd⟩, hG, hl, ha⟩ := h
  refine ⟨⟨v, hb.fr hf (hn g hG), ?_⟩, hG, fun b hb => Nat.lt_of_lt_of_le (hl b hb) hf.size, ha⟩
  rcases hd with hd | ⟨bs, A, c, h1, h2, h3, h4⟩
  · exact .inl hd
  · exact .inr ⟨bs, A, c, h1, h2, Sl.fr h3 hf (fun b hb _ => hn b hb.1), h4⟩
theorem MovAt.len {w : World} {g : Nat} {s : MS} {G : Nat → Prop} (h : MovAt w g s G) : s.bytes.length ≤ 140737488351232 := by
  obtain ⟨⟨v, hb, hd⟩, hG, hl, ha⟩ := h
  unfold MS.bytes
  rcases hd with ⟨hd, _⟩ | ⟨bs, A, c, h1, h2, h3, h4⟩
  · rw [hd]; simp
  · rw [h1]; exact h4

theorem movNew_any (w : World) : Calls Try.prog 24 #[] w fun e w' => ∃ g, e = .returned (.pointer (some ⟨g, 0, none⟩)) ∧ MovAt w' g ⟨0, none, 0⟩ (fun b => b = g) ∧ w.heap.size ≤ g ∧ Fr nowhere w w' := by
  go_enter Try.func24, Try.ntmps24
  go_wp2
  go_ret
  exact ⟨_, rfl, ⟨⟨_, Blk.new w _ _, .inl ⟨rfl, rfl⟩⟩, rfl, fun b hb => by subst hb; simp, Nat.zero_le _⟩, Nat.le_refl _, by (repeat (first | exact Fr.refl _ _ | assumption | refine Fr.setCell ?_ (by first | (right; omega) | (right; simp; done) | (right; simp; omega) | (left; simp; done) | (left; simp; omega) | (left; dsimp only; omega)) _ | refine Fr.alloc ?_ _ | refine Fr.drew ?_ | refine Fr.setRow ?_ (by first | (right; omega) | (right; simp; done) | (right; simp; omega) | (left; simp; done) | (left; simp; omega) | (left; dsimp only; omega)) _))⟩

set_option maxHeartbeats 1000000 in
theorem movKnow_any (g : Nat) (s : MS) (x : Mv) (G : Nat → Prop) (w : World) (h : MovAt w g s G) :
    Calls Try.prog 69 #[.pointer (some ⟨g, 0, none⟩), movV x] w fun e w' => (∃ v, e = .returned v) ∧ MovAt w' g (mKnow s x) G ∧ Fr (fun b => b = g) w w' := by
  obtain ⟨⟨v, hb, hd⟩, hG, hlt, hat⟩ := h
  obtain ⟨c0, c1, c2, f0, f1, f2⟩ := hb.facts3
  have hl := hb.lt
  have Hd := Lib.hid hd
  have Hlt := Lib.hid hlt
  obtain ⟨sn, sd, sa⟩ := s
  obtain ⟨xs, xf, xt, xe, xp, xn⟩ := x
  dsimp only at c0 c1 c2 hb
  clear hd hlt
  have reset : mKnow ⟨sn, sd, sa⟩ ⟨xs, xf, xt, xe, xp, xn⟩ = ⟨xn, none, 0⟩ → ∀ w', Fr (fun b => b = g) w w' → (∃ cs, Blk w' g 134 cs ∧ cs = #[.int .i64 xn, .slice none 0 0, .int .i64 0]) → MovAt w' g (mKnow ⟨sn, sd, sa⟩ ⟨xs, xf, xt, xe, xp, xn⟩) G := fun e w' hf ⟨cs, hb', hcs⟩ => by
    rw [e]
    subst hcs
    exact ⟨⟨_, hb', .inl ⟨rfl, rfl⟩⟩, hG, fun b hb => Nat.lt_of_lt_of_le (Hlt.out b hb) hf.size, Nat.zero_le _⟩
  have Reset := Lib.hid reset
  clear reset
  by_cases hn : sn = xn
  · subst hn
    by_cases hp : xp = 0
    · subst hp
      go_enter Try.func69, Try.ntmps69
      go_wp2
      refine wp_region_plan [.take 0, .take 1, .take 2, .take 3, .take 4, .take 5, .take 6, .take 7, .take 8, .take 9, .take 10, .take 11] [[1, 2, 3, 6, 7, 8, 9, 10, 11], [2, 3, 6, 7, 8, 9, 10, 11], [3, 6, 7, 8, 9, 10, 11], [6, 7, 8, 9, 10, 11], [5, 6, 7, 8, 9, 10, 11], [6, 7, 8, 9, 10, 11], [7, 8, 9, 10, 11], [8, 9, 10, 11], [9, 10, 11], [10, 11], [11], []] (by kernel_rfl) (by kernel_rfl) (by decide) (by kernel_rfl) (fun _ _ _ _ _ h => h) ?_
      simp only [planWp, Array.getD_eq_getD_getElem?, List.getElem?_toArray, List.getElem?_cons_succ, List.getElem?_cons_zero, Option.getD_some]
      repeat (first | ((with_reducible refine And.intro ?_ ?_); first | exact trivial | rfl) | go_step)
      go_wp2_with (((first | (with_reducible apply wpList_ran) | (with_reducible apply wpListIn_ran (fun _ => trivial)) | (with_reducible apply wp_ran) | (with_reducible apply wpIn_ran (fun _ => trivial))); (case r => ((with_reducible apply ran_st 134 rfl rfl 3 (by kernel_rfl)); (case hx => exact rfl); (case hy => exact rfl); (case hg => (first | ((apply Blk.out); (repeat (first | (with_reducible assumption) | ((with_reducible apply Blk.set_); (case' h => skip)) | ((with_reducible apply Blk.setRow); (case' h => skip)) | ((with_reducible apply Blk.far); (case' hp => (first | (simp; done) | (simp; omega) | omega)); (case' h => skip)) | ((with_reducible apply Blk.farRow); (case' hb => (first | (simp; done) | (simp; omega) | omega)); (case' h => skip)) | (with_reducible apply Blk.drew) | (with_reducible apply Blk.drewN) | ((with_reducible apply Blk.newAt); (first | rfl | (simp; done))) | ((apply Blk.newAt); (first | rfl | (simp; done))) | (with_reducible apply Blk.alloc) | assumption)); done) | (refine hpL0 ?hq; (case hq => (simp; done))) | (refine hpL1 ?hq; (case hq => (simp; done))) | (refine hpL2 ?hq; (case hq => (simp; done))) | (refine hpL3 ?hq; (case hq => (simp; done))) | (refine hpL4 ?hq; (case hq => (simp; done))) | (refine hpL5 ?hq; (case hq => (simp; done))) | (refine hpL6 ?hq; (case hq => (simp; done))))); (case hW => (first | (refine stL0 ?hq; (case hq => (simp; done))) | (refine stL1 ?hq; (case hq => (simp; done))) | (refine stL2 ?hq; (case hq => (simp; done))) | (refine stL3 ?hq; (case hq => (simp; done))) | (refine stL4 ?hq; (case hq => (simp; done))) | (refine stL5 ?hq; (case hq => (simp; done))) | (refine stL6 ?hq; (case hq => (simp; done))) | exact rfl)); (case hc => exact rfl); (case hold => exact rfl); (case h1 => kernel_rfl))); (try (case hw => rfl))))
      go_end0
      exact ⟨⟨_, rfl⟩, Reset.out (if_pos (.inr rfl)) _ (by (repeat (first | exact Fr.refl _ _ | assumption | refine Fr.setCell ?_ (by first | (right; omega) | (right; simp; done) | (right; simp; omega) | (left; simp; done) | (left; simp; omega) | (left; dsimp only; omega)) _ | refine Fr.alloc ?_ _ | refine Fr.drew ?_ | refine Fr.setRow ?_ (by first | (right; omega) | (right; simp; done) | (right; simp; omega) | (left; simp; done) | (left; simp; omega) | (left; dsimp only; omega)) _))) ⟨_, by repeat (first | (with_reducible assumption) | ((with_reducible apply Blk.set_); (case' h => skip)) | ((with_reducible apply Blk.setRow); (case' h => skip)) | ((with_reducible apply Blk.far); (case' hp => (first | (simp; done) | (simp; omega) | omega)); (case' h => skip)) | ((with_reducible apply Blk.farRow); (case' hb => (first | (simp; done) | (simp; omega) | omega)); (case' h => skip)) | (with_reducible apply Blk.drew) | (with_reducible apply Blk.drewN) | ((with_reducible apply Blk.newAt); (first | rfl | (simp; done))) | ((apply Blk.newAt); (first | rfl | (simp; done))) | (with_reducible apply Blk.alloc) | assumption), by rfl⟩, by (repeat (first | exact Fr.refl _ _ | assumption | refine Fr.setCell ?_ (by first | (right; omega) | (right; simp; done) | (right; simp; omega) | (left; simp; done) | (left; simp; omega) | (left; dsimp only; omega)) _ | refine Fr.alloc ?_ _ | refine Fr.drew ?_ | refine Fr.setRow ?_ (by first | (right; omega) | (right; simp; done) | (right; simp; omega) | (left; simp; done) | (left; simp; omega) | (left; dsimp only; omega)) _))⟩
    · have hp' : (xp == 0) = false := by simpa using hp
      have e : mKnow ⟨sn, sd, sa⟩ ⟨xs, xf, xt, xe, xp, sn⟩ = ⟨sn, sd, sa⟩ := if_neg (by simp [hp])
      rw [e]
      clear e hp Reset
      go_enter Try.func69, Try.ntmps69
      go_wp2
      refine wp_region_plan [.take 0, .take 1, .take 2, .take 3, .take 4, .take 5, .take 6, .take 7, .take 8, .take 9, .take 10, .take 11] [[1, 2, 3, 6, 7, 8, 9, 10, 11], [2, 3, 6, 7, 8, 9, 10, 11], [3, 6, 7, 8, 9, 10, 11], [6, 7, 8, 9, 10, 11], [5, 6, 7, 8, 9, 10, 11], [6, 7, 8, 9, 10, 11], [7, 8, 9, 10, 11], [8, 9, 10, 11], [9, 10, 11], [10, 11], [11], []] (by kernel_rfl) (by kernel_rfl) (by decide) (by kernel_rfl) (fun _ _ _ _ _ h => h) ?_
      simp only [planWp, Array.getD_eq_getD_getElem?, List.getElem?_toArray, List.getElem?_cons_succ, List.getElem?_cons_zero, Option.getD_some]
      repeat (first | ((with_reducible refine And.intro ?_ ?_); first | exact trivial | rfl) | go_step)
      go_wp2
      go_end0
      exact ⟨⟨_, rfl⟩, MovAt.fr ⟨⟨v, hb, Hd.out⟩, hG, Hlt.out, hat⟩ (F := nowhere) (by (repeat (first | exact Fr.refl _ _ | assumption | refine Fr.setCell ?_ (by first | (right; omega) | (right; simp; done) | (right; simp; omega) | (left; simp; done) | (left; simp; omega) | (left; dsimp only; omega)) _ | refine Fr.alloc ?_ _ | refine Fr.drew ?_ | refine Fr.setRow ?_ (by first | (right; omega) | (right; simp; done) | (right; simp; omega) | (left; simp; done) | (left; simp; omega) | (left; dsimp only; omega)) _))) (fun _ _ => id), by (repeat (first | exact Fr.refl _ _ | assumption | refine Fr.setCell ?_ (by first | (right; omega) | (right; simp; done) | (right; simp; omega) | (left; simp; done) | (left; simp; omega) | (left; dsimp only; omega)) _ | refine Fr.alloc ?_ _ | refine Fr.drew ?_ | refine Fr.setRow ?_ (by first | (right; omega) | (right; simp; done) | (right; simp; omega) | (left; simp; done) | (left; simp; omega) | (left; dsimp only; omega)) _))⟩
  · have hn' : (sn != xn) = true := by simpa using hn
    have Hn := Lib.hid hn
    clear hn
    go_enter Try.func69, Try.ntmps69
    go_wp2
    refine wp_region_plan [.take 0, .take 1, .take 2, .take 3, .take 4, .take 5, .take 6, .take 7, .take 8, .take 9, .take 10, .take 11] [[1, 2, 3, 6, 7, 8, 9, 10, 11], [2, 3, 6, 7, 8, 9, 10, 11], [3, 6, 7, 8, 9, 10, 11], [6, 7, 8, 9, 10, 11], [5, 6, 7, 8, 9, 10, 11], [6, 7, 8, 9, 10, 11], [7, 8, 9, 10, 11], [8, 9, 10, 11], [9, 10, 11], [10, 11], [11], []] (by kernel_rfl) (by kernel_rfl) (by decide) (by kernel_rfl) (fun _ _ _ _ _ h => h) ?_
    simp only [planWp, Array.getD_eq_getD_getElem?, List.getElem?_toArray, List.getElem?_cons_succ, List.getElem?_cons_zero, Option.getD_some]
    repeat (first | ((with_reducible refine And.intro ?_ ?_); first | exact trivial | rfl) | go_step)
    go_wp2_with (((first | (with_reducible apply wpList_ran) | (with_reducible apply wpListIn_ran (fun _ => trivial)) | (with_reducible apply wp_ran) | (with_reducible apply wpIn_ran (fun _ => trivial))); (case r => ((with_reducible apply ran_st 134 rfl rfl 3 (by kernel_rfl)); (case hx => exact rfl); (case hy => exact rfl); (case hg => (first | ((apply Blk.out); (repeat (first | (with_reducible assumption) | ((with_reducible apply Blk.set_); (case' h => skip)) | ((with_reducible apply Blk.setRow); (case' h => skip)) | ((with_reducible apply Blk.far); (case' hp => (first | (simp; done) | (simp; omega) | omega)); (case' h => skip)) | ((with_reducible apply Blk.farRow); (case' hb => (first | (simp; done) | (simp; omega) | omega)); (case' h => skip)) | (with_reducible apply Blk.drew) | (with_reducible apply Blk.drewN) | ((with_reducible apply Blk.newAt); (first | rfl | (simp; done))) | ((apply Blk.newAt); (first | rfl | (simp; done))) | (with_reducible apply Blk.alloc) | assumption)); done) | (refine hpL0 ?hq; (case hq => (simp; done))) | (refine hpL1 ?hq; (case hq => (simp; done))) | (refine hpL2 ?hq; (case hq => (simp; done))) | (refine hpL3 ?hq; (case hq => (simp; done))) | (refine hpL4 ?hq; (case hq => (simp; done))) | (refine hpL5 ?hq; (case hq => (simp; done))) | (refine hpL6 ?hq; (case hq => (simp; done))))); (case hW => (first | (refine stL0 ?hq; (case hq => (simp; done))) | (refine stL1 ?hq; (case hq => (simp; done))) | (refine stL2 ?hq; (case hq => (simp; done))) | (refine stL3 ?hq; (case hq => (simp; done))) | (refine stL4 ?hq; (case hq => (simp; done))) | (refine stL5 ?hq; (case hq => (simp; done))) | (refine stL6 ?hq; (case hq => (simp; done))) | exact rfl)); (case hc => exact rfl); (case hold => exact rfl); (case h1 => kernel_rfl))); (try (case hw => rfl))))
    go_end0
    exact ⟨⟨_, rfl⟩, Reset.out (if_pos (.inl Hn.out)) _ (by (repeat (first | exact Fr.refl _ _ | assumption | refine Fr.setCell ?_ (by first | (right; omega) | (right; simp; done) | (right; simp; omega) | (left; simp; done) | (left; simp; omega) | (left; dsimp only; omega)) _ | refine Fr.alloc ?_ _ | refine Fr.drew ?_ | refine Fr.setRow ?_ (by first | (right; omega) | (right; simp; done) | (right; simp; omega) | (left; simp; done) | (left; simp; omega) | (left; dsimp only; omega)) _))) ⟨_, by repeat (first | (with_reducible assumption) | ((with_reducible apply Blk.set_); (case' h => skip)) | ((with_reducible apply Blk.setRow); (case' h => skip)) | ((with_reducible apply Blk.far); (case' hp => (first | (simp; done) | (simp; omega) | omega)); (case' h => skip)) | ((with_reducible apply Blk.farRow); (case' hb => (first | (simp; done) | (simp; omega) | omega)); (case' h => skip)) | (with_reducible apply Blk.drew) | (with_reducible apply Blk.drewN) | ((with_reducible apply Blk.newAt); (first | rfl | (simp; done))) | ((apply Blk.newAt); (first | rfl | (simp; done))) | (with_reducible apply Blk.alloc) | assumption), by rfl⟩, by (repeat (first | exact Fr.refl _ _ | assumption | refine Fr.setCell ?_ (by first | (right; omega) | (right; simp; done) | (right; simp; omega) | (left; simp; done) | (left; simp; omega) | (left; dsimp only; omega)) _ | refine Fr.alloc ?_ _ | refine Fr.drew ?_ | refine Fr.setRow ?_ (by first | (right; omega) | (right; simp; done) | (right; simp; omega) | (left; simp; done) | (left; simp; omega) | (left; dsimp only; omega)) _))⟩
theorem movHas_any (g : Nat) (s : MS) (G : Nat → Prop) (w : World) (h : MovAt w g s G) :
    Calls Try.prog 34 #[.pointer (some ⟨g, 0, none⟩)] w fun e w' => e = .returned (.int .i64 (mHas s)) ∧ Fr nowhere w w' := by
  obtain ⟨⟨v, hb, hd⟩, hG, hlt, hat⟩ := h
  obtain ⟨c0, c1, c2, f0, f1, f2⟩ := hb.facts3
  have hl := hb.lt
  rcases hd with ⟨hd, rfl⟩ | ⟨bs, A, c, hd, rfl, _, hl2⟩
  · have hnil := fun (W : World) => Lib.run_eql_slice_nil (P := Try.prog) W 26 5 none 0 0 0 0 Try.underlying26
    have Hd := Lib.hid hd
    clear hd hat hlt
    go_enter Try.func34, Try.ntmps34
    go_wp2
    go_ret
    exact ⟨by unfold mHas; rw [Hd.out]; rfl, by (repeat (first | exact Fr.refl _ _ | assumption | refine Fr.setCell ?_ (by first | (right; omega) | (right; simp; done) | (right; simp; omega) | (left; simp; done) | (left; simp; omega) | (left; dsimp only; omega)) _ | refine Fr.alloc ?_ _ | refine Fr.drew ?_ | refine Fr.setRow ?_ (by first | (right; omega) | (right; simp; done) | (right; simp; omega) | (left; simp; done) | (left; simp; omega) | (left; dsimp only; omega)) _))⟩
  · have hnil := fun (W : World) => Lib.run_eql_slice_nil (P := Try.prog) W 26 5 (some A) bs.length c 0 0 Try.underlying26
    have Hd := Lib.hid hd
    clear hd hat hlt
    go_enter Try.func34, Try.ntmps34
    go_wp2
    go_ret
    exact ⟨by unfold mHas; rw [Hd.out]; rfl, by (repeat (first | exact Fr.refl _ _ | assumption | refine Fr.setCell ?_ (by first | (right; omega) | (right; simp; done) | (right; simp; omega) | (left; simp; done) | (left; simp; omega) | (left; dsimp only; omega)) _ | refine Fr.alloc ?_ _ | refine Fr.drew ?_ | refine Fr.setRow ?_ (by first | (right; omega) | (right; simp; done) | (right; simp; omega) | (left; simp; done) | (left; simp; omega) | (left; dsimp only; omega)) _))⟩
theorem movAt_any (g : Nat) (s : MS) (G : Nat → Prop) (w : World) (h : MovAt w g s G) :
    Calls Try.prog 36 #[.pointer (some ⟨g, 0, none⟩)] w fun e w' => e = .returned (.int .i64 s.at_) ∧ w = w' := by
  obtain ⟨⟨v, hb, hd⟩, hG, hlt, hat⟩ := h
  obtain ⟨c0, c1, c2, f0, f1, f2⟩ := hb.facts3
  have hl := hb.lt
  clear hd hat hlt
  go_enter Try.func36, Try.ntmps36
  go_wp2
  go_ret
  exact ⟨rfl, rfl⟩
end Go.Proofs.Ytglcmlicfmmlpaa
