/- A mover: what it asks, as an iterator. -/
import Derived.Test.YtglcmlicfmmlpaaMover2
namespace Go.Proofs.Ytglcmlicfmmlpaa
open Go.RowKit
attribute [local go_sem] Oper.semAt_some

theorem movAsks_any (g : Nat) (x : Mv) (w : World) :
    Calls Try.prog 67 #[.pointer (some ⟨g, 0, none⟩), movV x] w fun e w' => e = .returned (.func (.func 110) #[] #[.pointer (some ⟨w.heap.size, 0, none⟩), .pointer (some ⟨w.heap.size + 1, 0, none⟩)]) ∧
    w' = (w.alloc (.cells #[.pointer (some ⟨g, 0, none⟩)] 64)).alloc (.cells (movV x).cells 74) := by
  go_enter Try.func67, Try.ntmps67
  go_wp2
  go_ret
  exact ⟨rfl, rfl⟩

/-- What the mover asks: at most one. -/
def MItem (B : Nat) (s : MS) (x : Mv) (i : Nat) (vs : Array Value) (W : World) : Prop :=
  i = 0 ∧ ∃ ga ca A k ds, mNext (mKnow s x) x = some (ga, ca, ds) ∧ vs = #[askV ga ca (.slice A ds.length k)] ∧ Bs W (fun b => B ≤ b) (.slice A ds.length k) ds ∧ (ds.length ≤ 1000 ∧ W.ownsRow B 5 1 (.slice A ds.length k) ds.length (ds.map bcell))
def mCount (s : MS) (x : Mv) : Nat := if (mNext (mKnow s x) x).isSome = true then 1 else 0

set_option maxHeartbeats 1000000 in
theorem mAsks1_iter (m bM bX g : Nat) (s : MS) (x : Mv) (G Fb : Nat → Prop) (w : World) (h1 : Blk w bM 64 #[.pointer (some ⟨g, 0, none⟩)]) (h2 : Blk w bX 74 (movV x).cells) (hm : MovAt w g s G)
    (_hF1 : ¬ Fb bM) (_hF2 : ¬ Fb bX) (hG1 : ¬ G bM) (hG2 : ¬ G bX) (hFG : ∀ b, G b → ¬ Fb b) :
    IteratesO Fence.wide m Try.prog 110 #[.pointer (some ⟨bM, 0, none⟩), .pointer (some ⟨bX, 0, none⟩)] Fb (fun B i K b => i = 0 ∧ Kin (fun b => b = g) B K b) (MItem w.heap.size s x) (fun i W' => i = mCount s x ∧ MovAt W' g (mKnow s x) G) w := by
  intro l J Jx K0 W hlw hlW hfr hJl hJ hJx hY h0 hK0
  have HY := Lib.hid hY
  have HJ := Lib.hid hJ
  have hz := hfr.size
  have hl1 := h1.lt
  have hl2 := h2.lt
  have hlg := hm.lt g hm.mem
  have hM0 := hm.fr hfr (fun _ _ => id)
  have s1 := h1.fr hfr id
  have s2 := h2.fr hfr id
  obtain ⟨c1, _⟩ := s1.facts1
  obtain ⟨d0, d1, d2, d3, d4, d5, _⟩ := s2.facts6
  have hL1 : bM < W.heap.size := by omega
  have hL2 : bX < W.heap.size := by omega
  have HM0 := Lib.hid hM0
  have S1 := Lib.hid s1
  have S2 := Lib.hid s2
  clear hM0 s1 s2
  refine callsIn_of_wp Try.func110 rfl trivial ?_
  simp only [Try.ntmps110, List.size_toArray, List.length_cons, List.length_nil, Nat.reduceAdd, Nat.reduceSub, Array.replicate_succ, Array.replicate_zero, List.push_toArray, List.append_toArray, List.nil_append, List.cons_append]
  gi_wp2
  refine wpIn_scope_straight ?_
  gi_wp2
  refine wpIn_label ?_
  gi_wp2
  refine wpIn_loop (fun a' wr => a' = { tmps := #[.func (.yield l) #[] #[], .pointer (some ⟨bM, 0, none⟩), .pointer (some ⟨bX, 0, none⟩), undef, undef, undef, undef, undef, undef, undef, undef, undef, undef, undef, undef, undef, undef, undef, undef, undef, undef], defers := [] } ∧ wr = W) (fun _ _ => 0) ⟨rfl, rfl⟩ ?_
  rintro a' wr ⟨rfl, rfl⟩
  have ng1 : bM ≠ g := fun e => hG1 (e ▸ hm.mem)
  have ng2 : bX ≠ g := fun e => hG2 (e ▸ hm.mem)
  have hbx : Blk wr bX 74 (movV x).cells := S2.out
  gi_wp2_with (first | ((first | (with_reducible apply wpList_ran) | (with_reducible apply wpListIn_ran (fun _ => trivial)) | (with_reducible apply wp_ran) | (with_reducible apply wpIn_ran (fun _ => trivial))); (case r => ((with_reducible apply ran_ld 74 rfl 6 (by kernel_rfl) _ Try.underlying74 rfl); (case hx => exact rfl); (case hg => (first | ((apply Blk.out); (repeat (first | (with_reducible assumption) | ((with_reducible apply Blk.set_); (case' h => skip)) | ((with_reducible apply Blk.setRow); (case' h => skip)) | ((with_reducible apply Blk.far); (case' hp => (first | (simp; done) | (simp; omega) | omega)); (case' h => skip)) | ((with_reducible apply Blk.farRow); (case' hb => (first | (simp; done) | (simp; omega) | omega)); (case' h => skip)) | (with_reducible apply Blk.drew) | (with_reducible apply Blk.drewN) | ((with_reducible apply Blk.newAt); (first | rfl | (simp; done))) | ((apply Blk.newAt); (first | rfl | (simp; done))) | (with_reducible apply Blk.alloc) | assumption)); done) | (refine hpL0 ?hq; (case hq => (simp; done))) | (refine hpL1 ?hq; (case hq => (simp; done))) | (refine hpL2 ?hq; (case hq => (simp; done))) | (refine hpL3 ?hq; (case hq => (simp; done))) | (refine hpL4 ?hq; (case hq => (simp; done))) | (refine hpL5 ?hq; (case hq => (simp; done))) | (refine hpL6 ?hq; (case hq => (simp; done))))); (case hc => exact rfl))); (try (case hw => rfl))))
  refine ⟨trivial, fun h => absurd h wide_depth, callsIn_wide.2 ((movKnow_any g s x G _ HM0.out).mono ?_)⟩
  rintro e w1 ⟨⟨v1, rfl⟩, hm1, hf1⟩
  have u1 := S1.out.fr hf1 ng1
  have u2 : Blk w1 bX 74 (movV x).cells := S2.out.fr hf1 ng2
  obtain ⟨c1', _⟩ := u1.facts1
  have hz1 := hf1.size
  have Hm1 := Lib.hid hm1
  have Hr := Lib.hid hm1.lt
  clear c1 d0 d1 d2 d3 d4 d5 hbx u1 hm1
  dsimp only
  gi_wp2_with (first | ((first | (with_reducible apply wpList_ran) | (with_reducible apply wpListIn_ran (fun _ => trivial)) | (with_reducible apply wp_ran) | (with_reducible apply wpIn_ran (fun _ => trivial))); (case r => ((with_reducible apply ran_ld 74 rfl 6 (by kernel_rfl) _ Try.underlying74 rfl); (case hx => exact rfl); (case hg => (first | ((apply Blk.out); (repeat (first | (with_reducible assumption) | ((with_reducible apply Blk.set_); (case' h => skip)) | ((with_reducible apply Blk.setRow); (case' h => skip)) | ((with_reducible apply Blk.far); (case' hp => (first | (simp; done) | (simp; omega) | omega)); (case' h => skip)) | ((with_reducible apply Blk.farRow); (case' hb => (first | (simp; done) | (simp; omega) | omega)); (case' h => skip)) | (with_reducible apply Blk.drew) | (with_reducible apply Blk.drewN) | ((with_reducible apply Blk.newAt); (first | rfl | (simp; done))) | ((apply Blk.newAt); (first | rfl | (simp; done))) | (with_reducible apply Blk.alloc) | assumption)); done) | (refine hpL0 ?hq; (case hq => (simp; done))) | (refine hpL1 ?hq; (case hq => (simp; done))) | (refine hpL2 ?hq; (case hq => (simp; done))) | (refine hpL3 ?hq; (case hq => (simp; done))) | (refine hpL4 ?hq; (case hq => (simp; done))) | (refine hpL5 ?hq; (case hq => (simp; done))) | (refine hpL6 ?hq; (case hq => (simp; done))))); (case hc => exact rfl))); (try (case hw => rfl))))
  refine ⟨trivial, fun h => absurd h wide_depth, callsIn_wide.2 ((movNext_any g (mKnow s x) x G _ Hm1.out).mono ?_)⟩
  rintro e w2 ⟨ga, ca, v, ds, ok, rfl, hr, hbs, hlen, ⟨A, k, rfl⟩, hf2⟩
  have hz2 := hf2.size
  have hm2 := Hm1.out.fr hf2 (fun _ _ => id)
  have hKg : ¬ K0 g := fun h => hFG g hm.mem (hK0 g h).1
  have hfW2 : Fr (Kin (fun b => b = g) wr.heap.size K0) wr w2 := Fr.trans (hf1.mono (F' := Kin (fun b => b = g) wr.heap.size K0) (fun b _ e => ⟨.inr e, e ▸ hKg⟩)) hf2 (fun _ _ e => e.elim)
  have Hm2 := Lib.hid hm2
  have Hbs := Lib.hid hbs
  have Hr2 := Lib.hid hr
  have hok : ok = (mNext (mKnow s x) x).isSome := by
    rcases hr with ⟨h1, h2⟩ | ⟨h1, h2⟩
    · rw [h1, h2]; rfl
    · rw [h1, h2]; rfl
  have Hok := Lib.hid hok
  clear hm2 hbs hr u2 c1' hok
  dsimp only
  rcases ok with _ | _
  · gi_wp2_with (first | ((first | (with_reducible apply wpList_ran) | (with_reducible apply wpListIn_ran (fun _ => trivial)) | (with_reducible apply wp_ran) | (with_reducible apply wpIn_ran (fun _ => trivial))); (case r => ((with_reducible apply ran_st 49 rfl rfl 18 (by kernel_rfl)); (case hx => exact rfl); (case hy => exact rfl); (case hg => (first | ((apply Blk.out); (repeat (first | (with_reducible assumption) | ((with_reducible apply Blk.set_); (case' h => skip)) | ((with_reducible apply Blk.setRow); (case' h => skip)) | ((with_reducible apply Blk.far); (case' hp => (first | (simp; done) | (simp; omega) | omega)); (case' h => skip)) | ((with_reducible apply Blk.farRow); (case' hb => (first | (simp; done) | (simp; omega) | omega)); (case' h => skip)) | (with_reducible apply Blk.drew) | (with_reducible apply Blk.drewN) | ((with_reducible apply Blk.newAt); (first | rfl | (simp; done))) | ((apply Blk.newAt); (first | rfl | (simp; done))) | (with_reducible apply Blk.alloc) | assumption)); done) | (refine hpL0 ?hq; (case hq => (simp; done))) | (refine hpL1 ?hq; (case hq => (simp; done))) | (refine hpL2 ?hq; (case hq => (simp; done))) | (refine hpL3 ?hq; (case hq => (simp; done))) | (refine hpL4 ?hq; (case hq => (simp; done))) | (refine hpL5 ?hq; (case hq => (simp; done))) | (refine hpL6 ?hq; (case hq => (simp; done))))); (case hW => (first | (refine stL0 ?hq; (case hq => (simp; done))) | (refine stL1 ?hq; (case hq => (simp; done))) | (refine stL2 ?hq; (case hq => (simp; done))) | (refine stL3 ?hq; (case hq => (simp; done))) | (refine stL4 ?hq; (case hq => (simp; done))) | (refine stL5 ?hq; (case hq => (simp; done))) | (refine stL6 ?hq; (case hq => (simp; done))) | exact rfl)); (case hc => exact rfl); (case hold => exact rfl); (case h1 => kernel_rfl))); (try (case hw => rfl))))
    go_end0
    refine ⟨⟨_, rfl⟩, .inl ⟨0, K0, ⟨?_, Hm2.out.fr (F := nowhere) (by (repeat (first | exact Fr.refl _ _ | assumption | refine Fr.setCell ?_ (by first | (right; omega) | (right; simp; done) | (right; simp; omega) | (left; simp; done) | (left; simp; omega) | (left; dsimp only; omega)) _ | refine Fr.alloc ?_ _ | refine Fr.drew ?_ | refine Fr.setRow ?_ (by first | (right; omega) | (right; simp; done) | (right; simp; omega) | (left; simp; done) | (left; simp; omega) | (left; dsimp only; omega)) _))) (fun _ _ => id)⟩, HJ.out _ _ _ _ h0 ((hfW2.alloc _).mono (fun b _ e => ⟨rfl, e⟩))⟩⟩
    unfold mCount; rw [← Hok.out]; rfl
  · obtain ⟨_, hr⟩ : true = true ∧ mNext (mKnow s x) x = some (ga, ca, ds) := by
      rcases Hr2.out with ⟨_, h⟩ | h
      · cases h
      · exact h
    have hit : MItem w.heap.size s x 0 #[askV ga ca (.slice A ds.length k)] (w2.alloc (.cells (askV ga ca (.slice A ds.length k)).cells 49)) :=
      ⟨rfl, ga, ca, A, k, ds, hr, rfl, (Hbs.out.fr (F := nowhere) (by (repeat (first | exact Fr.refl _ _ | assumption | refine Fr.setCell ?_ (by first | (right; omega) | (right; simp; done) | (right; simp; omega) | (left; simp; done) | (left; simp; omega) | (left; dsimp only; omega)) _ | refine Fr.alloc ?_ _ | refine Fr.drew ?_ | refine Fr.setRow ?_ (by first | (right; omega) | (right; simp; done) | (right; simp; omega) | (left; simp; done) | (left; simp; omega) | (left; dsimp only; omega)) _))) (fun _ _ _ => id)).mono (fun b _ hb => by omega), hlen.1, own_base (own_fr (F := nowhere) hlen.2 (by (repeat (first | exact Fr.refl _ _ | assumption | refine Fr.setCell ?_ (by first | (right; omega) | (right; simp; done) | (right; simp; omega) | (left; simp; done) | (left; simp; omega) | (left; dsimp only; omega)) _ | refine Fr.alloc ?_ _ | refine Fr.drew ?_ | refine Fr.setRow ?_ (by first | (right; omega) | (right; simp; done) | (right; simp; omega) | (left; simp; done) | (left; simp; omega) | (left; dsimp only; omega)) _))) (fun _ _ => id)) (fun b _ hb => by omega)⟩
    obtain ⟨fn, tmps, assign, body, hy, hR⟩ := HY.out 0 K0 _ _ (by simp; omega) (HJ.out _ _ _ _ h0 ((hfW2.alloc _).mono (fun b _ e => ⟨rfl, e⟩))) hit
    have HR := Lib.hid (roundIn_wide' (n' := m - 1) hR)
    simp only [Value.cells] at hy
    clear hR hit hr
    gi_wp2_with (first | ((first | (with_reducible apply wpList_ran) | (with_reducible apply wpListIn_ran (fun _ => trivial)) | (with_reducible apply wp_ran) | (with_reducible apply wpIn_ran (fun _ => trivial))); (case r => ((with_reducible apply ran_st 49 rfl rfl 18 (by kernel_rfl)); (case hx => exact rfl); (case hy => exact rfl); (case hg => (first | ((apply Blk.out); (repeat (first | (with_reducible assumption) | ((with_reducible apply Blk.set_); (case' h => skip)) | ((with_reducible apply Blk.setRow); (case' h => skip)) | ((with_reducible apply Blk.far); (case' hp => (first | (simp; done) | (simp; omega) | omega)); (case' h => skip)) | ((with_reducible apply Blk.farRow); (case' hb => (first | (simp; done) | (simp; omega) | omega)); (case' h => skip)) | (with_reducible apply Blk.drew) | (with_reducible apply Blk.drewN) | ((with_reducible apply Blk.newAt); (first | rfl | (simp; done))) | ((apply Blk.newAt); (first | rfl | (simp; done))) | (with_reducible apply Blk.alloc) | assumption)); done) | (refine hpL0 ?hq; (case hq => (simp; done))) | (refine hpL1 ?hq; (case hq => (simp; done))) | (refine hpL2 ?hq; (case hq => (simp; done))) | (refine hpL3 ?hq; (case hq => (simp; done))) | (refine hpL4 ?hq; (case hq => (simp; done))) | (refine hpL5 ?hq; (case hq => (simp; done))) | (refine hpL6 ?hq; (case hq => (simp; done))))); (case hW => (first | (refine stL0 ?hq; (case hq => (simp; done))) | (refine stL1 ?hq; (case hq => (simp; done))) | (refine stL2 ?hq; (case hq => (simp; done))) | (refine stL3 ?hq; (case hq => (simp; done))) | (refine stL4 ?hq; (case hq => (simp; done))) | (refine stL5 ?hq; (case hq => (simp; done))) | (refine stL6 ?hq; (case hq => (simp; done))) | exact rfl)); (case hc => exact rfl); (case hold => exact rfl); (case h1 => kernel_rfl))); (try (case hw => rfl))) | ((first | (with_reducible apply wpList_ran) | (with_reducible apply wpListIn_ran (fun _ => trivial)) | (with_reducible apply wp_ran) | (with_reducible apply wpIn_ran (fun _ => trivial))); (case r => ((with_reducible apply ran_ld 49 rfl 18 (by kernel_rfl) _ Try.underlying49 rfl); (case hx => exact rfl); (case hg => (first | ((apply Blk.out); (repeat (first | (with_reducible assumption) | ((with_reducible apply Blk.set_); (case' h => skip)) | ((with_reducible apply Blk.setRow); (case' h => skip)) | ((with_reducible apply Blk.far); (case' hp => (first | (simp; done) | (simp; omega) | omega)); (case' h => skip)) | ((with_reducible apply Blk.farRow); (case' hb => (first | (simp; done) | (simp; omega) | omega)); (case' h => skip)) | (with_reducible apply Blk.drew) | (with_reducible apply Blk.drewN) | ((with_reducible apply Blk.newAt); (first | rfl | (simp; done))) | ((apply Blk.newAt); (first | rfl | (simp; done))) | (with_reducible apply Blk.alloc) | assumption)); done) | (refine hpL0 ?hq; (case hq => (simp; done))) | (refine hpL1 ?hq; (case hq => (simp; done))) | (refine hpL2 ?hq; (case hq => (simp; done))) | (refine hpL3 ?hq; (case hq => (simp; done))) | (refine hpL4 ?hq; (case hq => (simp; done))) | (refine hpL5 ?hq; (case hq => (simp; done))) | (refine hpL6 ?hq; (case hq => (simp; done))))); (case hc => exact rfl))); (try (case hw => rfl))))
    refine ⟨fun h => absurd h wide_depth, HR.out.mono ?_⟩
    rintro e W3 (⟨rfl, K3, hJ3, hg3, hf3⟩ | ⟨rfl, K3, hJx3, hg3, hf3⟩)
    · clear hy
      dsimp only
      gi_wp2
      simp only [Exit.noGoto]
      go_end0
      refine ⟨⟨_, rfl⟩, .inl ⟨1, K3, ⟨by unfold mCount; rw [← Hok.out]; rfl, (Hm2.out.fr (F := nowhere) (Fr.alloc (Fr.refl _ _) _) (fun _ _ => id)).fr hf3 (fun b hb h => ?_)⟩, hJ3⟩⟩
      rcases h with h | h
      · exact hFG b hb (hK0 b h).1
      · have := hm.lt b hb; omega
    · clear hy
      dsimp only
      gi_wp2
      simp only [Exit.noGoto]
      go_end0
      exact ⟨⟨_, rfl⟩, .inr ⟨K3, hJx3⟩⟩

/-- What the law's helper makes of it: a list of what is asked. -/
def MAsked (s : MS) (x : Mv) (g : Nat) (G : Nat → Prop) (w : World) (e : Ending) (w' : World) : Prop :=
  MovAt w' g (mKnow s x) G ∧ Fr (fun b => b = g) w w' ∧
  ((mNext (mKnow s x) x = none ∧ e = .returned (.slice none 0 0)) ∨
    ∃ ga ca ds A k gB cb, mNext (mKnow s x) x = some (ga, ca, ds) ∧ e = .returned (.slice (some ⟨gB, 0, none⟩) 1 cb) ∧ w.heap.size ≤ gB ∧ w'.ownsRow w.heap.size 49 18 (.slice (some ⟨gB, 0, none⟩) 1 cb) 1 (askV ga ca (.slice A ds.length k)).cells.toList ∧
      Bs w' (fun b => w.heap.size ≤ b ∧ b ≠ gB) (.slice A ds.length k) ds ∧ (ds.length ≤ 1000 ∧ w'.ownsRow w.heap.size 5 1 (.slice A ds.length k) ds.length (ds.map bcell)))
theorem bs_ask' (g : Int) (c : Cmd) (A : Option Addr) (n k : Nat) (w : World) : (Instr.buildSlice 41 1 #[(0, askV g c (.slice A n k))]).run Try.prog w = .ok (.slice (some ⟨w.heap.size, 0, none⟩) 1 1) (w.alloc (.cells (askV g c (.slice A n k)).cells 49)) := by kernel_rfl
theorem seq16_not_nil (W : World) (a b : Option Addr) : (binOp .eql 131 (.func (.func 110) #[] #[.pointer a, .pointer b]) .nilFunc).run Try.prog W = .ok (.bool false) W := by kernel_rfl
theorem askV_one (g : Int) (c : Cmd) (v : Value) (hv : v.oneCell' = true) : ∀ u ∈ (askV g c v).cells.toList, u.oneCell' = true := by
  intro u hu
  simp only [Value.cells] at hu
  simp at hu
  rcases hu with rfl | rfl | rfl | rfl | rfl | rfl | rfl | rfl | rfl | rfl | rfl | rfl | rfl | rfl | rfl | rfl | rfl | rfl <;> first | rfl | exact hv

/-- What holds in the helper's loop. -/
def MLoop (g : Nat) (s : MS) (x : Mv) (w : World) (B1 : Nat) (j : Nat) (K : Nat → Prop) (W' : World) : Prop :=
  ∃ B cb, (K = fun b => b = w.heap.size + 1 ∨ B.map (·.block) = some b) ∧ Blk W' (w.heap.size + 1) 41 #[.slice B j cb] ∧ Fr (fun b => b = g) w W' ∧ ((j = 0 ∧ B = none ∧ cb = 0) ∨ (j = 1 ∧ ∃ ga ca A k ds gB, mNext (mKnow s x) x = some (ga, ca, ds) ∧ B = some ⟨gB, 0, none⟩ ∧ B1 + 2 ≤ gB ∧ W'.ownsRow (B1 + 2) 49 18 (.slice (some ⟨gB, 0, none⟩) 1 cb) 1 (askV ga ca (.slice A ds.length k)).cells.toList ∧ Bs W' (fun b => B1 + 2 ≤ b ∧ b ≠ gB) (.slice A ds.length k) ds ∧ (ds.length ≤ 1000 ∧ W'.ownsRow (B1 + 2) 5 1 (.slice A ds.length k) ds.length (ds.map bcell))))
set_option maxRecDepth 100000 in
set_option maxHeartbeats 4000000 in
theorem asks16_any (g : Nat) (s : MS) (x : Mv) (G : Nat → Prop) (w : World) (hm : MovAt w g s G) :
    Calls Try.prog 25 #[.pointer (some ⟨g, 0, none⟩), movV x] w (MAsked s x g G w) := by
  have hnf := seq16_not_nil
  refine callsIn_wide (n := 5).1 ?_
  refine callsIn_of_wp_marks Try.func25 rfl trivial ?_
  simp only [Try.ntmps25, List.size_toArray, List.length_cons, List.length_nil, Nat.reduceAdd, Nat.reduceSub, Array.replicate_succ, Array.replicate_zero, List.push_toArray, List.append_toArray, List.nil_append, List.cons_append]
  have Hm := Lib.hid hm
  gi_wp2_with (first | ((first | (with_reducible apply wpList_ran) | (with_reducible apply wpListIn_ran (fun _ => trivial)) | (with_reducible apply wp_ran) | (with_reducible apply wpIn_ran (fun _ => trivial))); (case r => ((with_reducible apply ran_ld 74 rfl 6 (by kernel_rfl) _ Try.underlying74 rfl); (case hx => exact rfl); (case hg => (first | ((apply Blk.out); (repeat (first | (with_reducible assumption) | ((with_reducible apply Blk.set_); (case' h => skip)) | ((with_reducible apply Blk.setRow); (case' h => skip)) | ((with_reducible apply Blk.far); (case' hp => (first | (simp; done) | (simp; omega) | omega)); (case' h => skip)) | ((with_reducible apply Blk.farRow); (case' hb => (first | (simp; done) | (simp; omega) | omega)); (case' h => skip)) | (with_reducible apply Blk.drew) | (with_reducible apply Blk.drewN) | ((with_reducible apply Blk.newAt); (first | rfl | (simp; done))) | ((apply Blk.newAt); (first | rfl | (simp; done))) | (with_reducible apply Blk.alloc) | assumption)); done) | (refine hpL0 ?hq; (case hq => (simp; done))) | (refine hpL1 ?hq; (case hq => (simp; done))) | (refine hpL2 ?hq; (case hq => (simp; done))) | (refine hpL3 ?hq; (case hq => (simp; done))) | (refine hpL4 ?hq; (case hq => (simp; done))) | (refine hpL5 ?hq; (case hq => (simp; done))) | (refine hpL6 ?hq; (case hq => (simp; done))))); (case hc => exact rfl))); (try (case hw => rfl))))
  refine ⟨trivial, callsIn_wide.2 ((movAsks_any g x _).mono ?_)⟩
  rintro e w1 ⟨rfl, hw1⟩
  have b0 : Blk w1 (w.heap.size + 1) 41 #[.slice none 0 0] := by rw [hw1]; exact ((Blk.newAt (by simp)).alloc _).alloc _
  have b1 : Blk w1 (w.heap.size + 2) 64 #[.pointer (some ⟨g, 0, none⟩)] := by rw [hw1]; exact (Blk.newAt (by simp)).alloc _
  have b2 : Blk w1 (w.heap.size + 3) 74 (movV x).cells := by rw [hw1]; exact Blk.newAt (by simp)
  have hf1 : Fr nowhere w w1 := by rw [hw1]; (repeat (first | exact Fr.refl _ _ | assumption | refine Fr.setCell ?_ (by first | (right; omega) | (right; simp; done) | (right; simp; omega) | (left; simp; done) | (left; simp; omega) | (left; dsimp only; omega)) _ | refine Fr.alloc ?_ _ | refine Fr.drew ?_ | refine Fr.setRow ?_ (by first | (right; omega) | (right; simp; done) | (right; simp; omega) | (left; simp; done) | (left; simp; omega) | (left; dsimp only; omega)) _))
  have hz1 : w1.heap.size = w.heap.size + 4 := by rw [hw1]; simp
  have hm1 := Hm.out.fr hf1 (fun _ _ => id)
  have hGl := Hm.out.lt
  have HGl := Lib.hid hGl
  have H0 := Lib.hid (show _ ∧ _ ∧ _ ∧ _ from ⟨b0, b1, b2, hm1⟩)
  clear hw1 b0 b1 b2 hm1 hGl hm
  dsimp only
  rw [show ((w.alloc _).alloc _).heap.size + 1 = w.heap.size + 3 by simp, show ((w.alloc _).alloc _).heap.size = w.heap.size + 2 by simp]
  gi_wp2
  clear hnf
  obtain ⟨b0, b1, b2, hm1⟩ := H0.out
  have hGlt : ∀ b, G b → b < w.heap.size := HGl.out
  refine wpIn_rangeO (Fb := fun b => b = w.heap.size + 1) (K0 := fun b => b = w.heap.size + 1) (Kn := fun B i K b => i = 0 ∧ Kin (fun b => b = g) B K b) (X := MItem w1.heap.size s x) (S := fun i W' => i = mCount s x ∧ MovAt W' g (mKnow s x) G) rfl rfl (fun _ => trivial) (gf := 110) rfl (fun _ _ => by kernel_rfl)
    (mAsks1_iter _ (w.heap.size + 2) (w.heap.size + 3) g s x G _ w1 b1 b2 hm1 (by omega) (by omega) (fun h => by have := hGlt _ h; omega) (fun h => by have := hGlt _ h; omega) (fun b h e => by have := hGlt _ h; omega))
    ?_ ?_ ?_ ?_ (MLoop g s x w w1.heap.size)
    (fun _ _ _ => False) ?_ ?_ ?_ ?_ ?_ ?_ ?_ ?_
  · rintro B i K b ⟨rfl, h, _⟩
    rcases h with h | h
    · exact .inl h
    · subst h; exact .inr (by have := hGlt _ hm1.mem; omega)
  · rintro i A C ⟨h1, h2⟩ hf
    exact ⟨h1, h2.fr hf (fun b hb h => by have := hGlt _ hb; omega)⟩
  · rintro i vs W' ⟨_, ga, ca, A, k, ds, _, rfl, _⟩
    rfl
  · rintro b rfl; exact ⟨rfl, by omega⟩
  · rintro i K A ⟨B, cb, rfl, h1, h2, h3⟩ b (rfl | h)
    · exact h1.lt
    · rcases h3 with ⟨_, rfl, _⟩ | ⟨_, ga, ca, A2, k, ds, gB, _, rfl, _, h4, _⟩
      · cases h
      · exact (h4.lt b h).2
  · rintro B i K b hB ⟨h0, h, h2⟩
    exact ⟨h0, h.imp (Nat.le_trans hB) id, h2⟩
  · rintro i K A C ⟨B, cb, rfl, h1, h2, h3⟩ n1 n2 hf
    have hg := hGlt _ hm1.mem
    have hz2 := h2.size
    refine ⟨B, cb, rfl, h1.fr hf ?_, Fr.trans h2 hf (fun b hb e => ?_), ?_⟩
    · rintro (h | h | ⟨_, h, h'⟩)
      · omega
      · omega
      · exact h' (.inl rfl)
    · rcases e with e | e | ⟨_, e | e, _⟩
      · omega
      · omega
      · omega
      · exact e
    · rcases h3 with h3 | ⟨rfl, ga, ca, A2, k, ds, gB, q1, rfl, q2, q3, q4, q5⟩
      · exact .inl h3
      · refine .inr ⟨rfl, ga, ca, A2, k, ds, gB, q1, rfl, q2, own_fr q3 hf ?_, Sl.fr q4 hf ?_, q5.1, own_fr q5.2 hf ?_⟩
        · intro b hb
          have hb : gB = b := by simpa [Value.ownBlock] using hb
          rintro (h | h | ⟨h, _⟩)
          · omega
          · omega
          · cases h
        · intro b hb _
          rintro (h | h | ⟨h, _⟩)
          · omega
          · omega
          · cases h
        · intro b hb
          have := (q5.2.lt b hb).1
          rintro (h | h | ⟨h, _⟩)
          · omega
          · omega
          · cases h
  · exact fun _ _ _ _ h => h.elim
  · exact ⟨none, 0, by simp, b0, hf1.any, .inl ⟨rfl, rfl, rfl⟩⟩
  · rintro i K vs W' hW' hlp hmk ⟨B, cb, hKe, h1, h2, h3⟩ n1 n2 ⟨rfl, ga, ca, A, k, ds, q1, rfl, q2, q3⟩
    obtain ⟨_, rfl, rfl⟩ : (0 : Nat) = 0 ∧ B = none ∧ cb = 0 := by
      rcases h3 with h3 | ⟨h, _⟩
      · exact h3
      · cases h
    obtain ⟨r, hlp⟩ := hlp
    have q2' : Bs W' (fun b => w1.heap.size + 2 ≤ b) (.slice A ds.length k) ds := (sl_off (sl_off q2 (by omega) hmk (by intros; simp)) (by omega) hlp (by intros; simp)).mono (fun b _ hb => by
      have h1 := hb.1.1
      have h2 := hb.1.2
      have h3 := hb.2
      omega)
    have q3' : W'.ownsRow (w1.heap.size + 2) 5 1 (.slice A ds.length k) ds.length (ds.map bcell) := own_base q3.2 (fun b hb hB => by
      obtain ⟨cs, hbk, _⟩ := own_blk q3.2 hb
      have e1 : b ≠ w1.heap.size := fun e => by subst e; have := hbk.out.symm.trans hmk; cases this
      have e2 : b ≠ w1.heap.size + 1 := fun e => by subst e; have := hbk.out.symm.trans hlp; cases this
      omega)
    have H12 := Lib.hid (show _ ∧ _ ∧ _ ∧ _ from ⟨h1, h2, q2', q3'⟩)
    have HKe := Lib.hid hKe
    clear hKe h1 h2 h3 q2 q2' q3' b0 b1 b2 hm1 hlp hmk n1 n2
    dsimp only
    gi_wp2_with (first | ((first | (with_reducible apply wpList_ran) | (with_reducible apply wpListIn_ran (fun _ => trivial)) | (with_reducible apply wp_ran) | (with_reducible apply wpIn_ran (fun _ => trivial))); (case r => ((with_reducible apply ran_st 49 rfl rfl 18 (by kernel_rfl)); (case hx => exact rfl); (case hy => exact rfl); (case hg => (first | ((apply Blk.out); (repeat (first | (with_reducible assumption) | ((with_reducible apply Blk.set_); (case' h => skip)) | ((with_reducible apply Blk.setRow); (case' h => skip)) | ((with_reducible apply Blk.far); (case' hp => (first | (simp; done) | (simp; omega) | omega)); (case' h => skip)) | ((with_reducible apply Blk.farRow); (case' hb => (first | (simp; done) | (simp; omega) | omega)); (case' h => skip)) | (with_reducible apply Blk.drew) | (with_reducible apply Blk.drewN) | ((with_reducible apply Blk.newAt); (first | rfl | (simp; done))) | ((apply Blk.newAt); (first | rfl | (simp; done))) | (with_reducible apply Blk.alloc) | assumption)); done) | (refine hpL0 ?hq; (case hq => (simp; done))) | (refine hpL1 ?hq; (case hq => (simp; done))) | (refine hpL2 ?hq; (case hq => (simp; done))) | (refine hpL3 ?hq; (case hq => (simp; done))) | (refine hpL4 ?hq; (case hq => (simp; done))) | (refine hpL5 ?hq; (case hq => (simp; done))) | (refine hpL6 ?hq; (case hq => (simp; done))))); (case hW => (first | (refine stL0 ?hq; (case hq => (simp; done))) | (refine stL1 ?hq; (case hq => (simp; done))) | (refine stL2 ?hq; (case hq => (simp; done))) | (refine stL3 ?hq; (case hq => (simp; done))) | (refine stL4 ?hq; (case hq => (simp; done))) | (refine stL5 ?hq; (case hq => (simp; done))) | (refine stL6 ?hq; (case hq => (simp; done))) | exact rfl)); (case hc => exact rfl); (case hold => exact rfl); (case h1 => kernel_rfl))); (try (case hw => rfl))))
    refine ⟨by (repeat (first | exact Fr.refl _ _ | assumption | refine Fr.setCell ?_ (by first | (right; omega) | (right; simp; done) | (right; simp; omega) | (left; simp; done) | (left; simp; omega) | (left; dsimp only; omega)) _ | refine Fr.alloc ?_ _ | refine Fr.drew ?_ | refine Fr.setRow ?_ (by first | (right; omega) | (right; simp; done) | (right; simp; omega) | (left; simp; done) | (left; simp; omega) | (left; dsimp only; omega)) _)), fun W2 hfW => ?_⟩
    intros
    obtain ⟨h1, h2, q2, q3'⟩ := H12.out
    have hfa : Fr (fun b => b = w1.heap.size + 1) W' W2 := Fr.trans (Fr.any (by (repeat (first | exact Fr.refl _ _ | assumption | refine Fr.setCell ?_ (by first | (right; omega) | (right; simp; done) | (right; simp; omega) | (left; simp; done) | (left; simp; omega) | (left; dsimp only; omega)) _ | refine Fr.alloc ?_ _ | refine Fr.drew ?_ | refine Fr.setRow ?_ (by first | (right; omega) | (right; simp; done) | (right; simp; omega) | (left; simp; done) | (left; simp; omega) | (left; dsimp only; omega)) _)))) hfW (fun _ _ e => by omega)
    have k1 : Blk W2 (w.heap.size + 1) 41 #[.slice none 0 0] := h1.fr hfa (by omega)
    have k9 : Blk W2 W'.heap.size 49 (askV ga ca (.slice A ds.length k)).cells := Blk.fr (by repeat (first | (with_reducible assumption) | ((with_reducible apply Blk.set_); (case' h => skip)) | ((with_reducible apply Blk.setRow); (case' h => skip)) | ((with_reducible apply Blk.far); (case' hp => (first | (simp; done) | (simp; omega) | omega)); (case' h => skip)) | ((with_reducible apply Blk.farRow); (case' hb => (first | (simp; done) | (simp; omega) | omega)); (case' h => skip)) | (with_reducible apply Blk.drew) | (with_reducible apply Blk.drewN) | ((with_reducible apply Blk.newAt); (first | rfl | (simp; done))) | ((apply Blk.newAt); (first | rfl | (simp; done))) | (with_reducible apply Blk.alloc) | assumption)) hfW (by omega)
    have kd : Bs W2 (fun b => w1.heap.size + 2 ≤ b) (.slice A ds.length k) ds := q2.fr hfa (fun b hb _ => by omega)
    have hzW := hfa.size
    have hz9 := k9.lt
    obtain ⟨c0, f0⟩ := k1.facts1
    have ko : W2.ownsRow (w1.heap.size + 2) 5 1 (.slice A ds.length k) ds.length (ds.map bcell) := own_fr q3' hfa (fun b hb e => by have := (q3'.lt b hb).1; omega)
    have Ko := Lib.hid ko
    clear ko q3'
    have Kd := Lib.hid kd
    have K1 := Lib.hid k1
    have hg := hGlt
    have hf2 : Fr (fun b => b = g) w W2 := Fr.trans h2 hfa (fun b hb e => by omega)
    clear h1 h2 kd k1 hfa hg
    gi_wp2_with (first | ((first | (with_reducible apply wpList_ran) | (with_reducible apply wpListIn_ran (fun _ => trivial)) | (with_reducible apply wp_ran) | (with_reducible apply wpIn_ran (fun _ => trivial))); (case r => ((with_reducible apply ran_ld 49 rfl 18 (by kernel_rfl) _ Try.underlying49 rfl); (case hx => exact rfl); (case hg => (first | ((apply Blk.out); (repeat (first | (with_reducible assumption) | ((with_reducible apply Blk.set_); (case' h => skip)) | ((with_reducible apply Blk.setRow); (case' h => skip)) | ((with_reducible apply Blk.far); (case' hp => (first | (simp; done) | (simp; omega) | omega)); (case' h => skip)) | ((with_reducible apply Blk.farRow); (case' hb => (first | (simp; done) | (simp; omega) | omega)); (case' h => skip)) | (with_reducible apply Blk.drew) | (with_reducible apply Blk.drewN) | ((with_reducible apply Blk.newAt); (first | rfl | (simp; done))) | ((apply Blk.newAt); (first | rfl | (simp; done))) | (with_reducible apply Blk.alloc) | assumption)); done) | (refine hpL0 ?hq; (case hq => (simp; done))) | (refine hpL1 ?hq; (case hq => (simp; done))) | (refine hpL2 ?hq; (case hq => (simp; done))) | (refine hpL3 ?hq; (case hq => (simp; done))) | (refine hpL4 ?hq; (case hq => (simp; done))) | (refine hpL5 ?hq; (case hq => (simp; done))) | (refine hpL6 ?hq; (case hq => (simp; done))))); (case hc => exact rfl))); (try (case hw => rfl))) | (((first | (with_reducible apply wpList_ran) | (with_reducible apply wpListIn_ran (fun _ => trivial)) | (with_reducible apply wp_ran) | (with_reducible apply wpIn_ran (fun _ => trivial))); (case r => ((with_reducible apply ran_bsl rfl (bs_ask' ga ca A _ k _)); (first | (case he => exact rfl) | exact rfl))); (try (case hw => rfl))); refine wpListIn_app (o := ⟨some 18, _, _, _, _, _⟩) (fun _ => trivial) rfl rfl (w1.heap.size + 2) Try.underlying41 ei_ask (.slice none 0 0) 0 [] rfl (World.ownsRow_nil _ _ _ _) ⟨W2.heap.size, 0, none⟩ 1 1 (askV ga ca (.slice A ds.length k)).cells.toList rfl rfl (news_last rfl) (askV_one _ _ _ rfl) (by simp [maxLen]) (by omega) (by simp; omega) ?_; intro v3 w3 hown3 hg3 _ hat3; have k3 : Blk w3 (w.heap.size + 1) 41 #[.slice none 0 0] := (K1.out.alloc _).grown hg3 (by simp [Value.ownBlock]); obtain ⟨c0', f0'⟩ := k3.facts1; have K3 := Lib.hid k3; obtain ⟨B3, cb3, rfl, _⟩ := ownsRow_slice hown3; clear c0 f0 k3; have Hat3 := Lib.hid (at_new hat3 rfl); have Hown3 := Lib.hid hown3; have Hg3 := Lib.hid hg3; clear hat3 hown3 hg3))
    have h3 := Hown3.out
    rw [Nat.zero_add, List.nil_append] at h3
    obtain ⟨gB, cap', hA, _, _⟩ := h3.form (by omega)
    injection hA with hA1 hA2 hA3
    subst hA1
    have hgB := Hat3.out gB rfl
    simp at hgB
    have hK : Fr (fun b => b = w.heap.size + 1 ∨ (none : Option Addr).map (·.block) = some b) W2 (w3.setCell ⟨w.heap.size + 1, 0, none⟩ (.slice (some ⟨gB, 0, none⟩) 1 cb3)) :=
      (((Fr.refl _ W2).alloc _).grown Hg3.out (fun g e => by simp [Value.ownBlock] at e)).setCell (.inl (.inl rfl)) _
    have hloop : MLoop g s x w w1.heap.size 1 (fun b => b = w.heap.size + 1 ∨ (some (⟨gB, 0, none⟩ : Addr)).map (·.block) = some b) (w3.setCell ⟨w.heap.size + 1, 0, none⟩ (.slice (some ⟨gB, 0, none⟩) 1 cb3)) := by
     refine ⟨some ⟨gB, 0, none⟩, cb3, rfl, K3.out.set_ 0 _, Fr.trans hf2 hK (fun b hb e => ?_), .inr ⟨rfl, ga, ca, A, k, ds, gB, q1, rfl, by omega, own_fr (F := fun b => b = w.heap.size + 1) h3 (by (repeat (first | exact Fr.refl _ _ | assumption | refine Fr.setCell ?_ (by first | (right; omega) | (right; simp; done) | (right; simp; omega) | (left; simp; done) | (left; simp; omega) | (left; dsimp only; omega)) _ | refine Fr.alloc ?_ _ | refine Fr.drew ?_ | refine Fr.setRow ?_ (by first | (right; omega) | (right; simp; done) | (right; simp; omega) | (left; simp; done) | (left; simp; omega) | (left; dsimp only; omega)) _))) (fun b hb e => ?_), ?_, q3.1, own_fr Ko.out hK (fun b hb e => by have := (Ko.out.lt b hb).1; rcases e with e | e; omega; cases e)⟩⟩
     · rcases e with e | e
       · omega
       · cases e
     · have : gB = b := by simpa [Value.ownBlock] using hb
       omega
     · exact (Kd.out.mono (G' := fun b => w1.heap.size + 2 ≤ b ∧ b ≠ gB) (fun b hlt h => ⟨h, by omega⟩)).fr hK (fun b hb _ e => by rcases e with e | e; omega; cases e)
    rw [hz1] at hloop
    refine ⟨_, hloop, fun b hb => ?_, by rw [HKe.out]; exact hK⟩
    rw [HKe.out]
    rcases hb with h | h
    · exact .inl (.inl h)
    · have : gB = b := by simpa using h
      exact .inr (by omega)
  · rintro i K W' ⟨rfl, hmv⟩ ⟨B, cb, rfl, h1, h2, h3⟩ hd
    obtain ⟨c0, f0⟩ := h1.facts1
    have hzg := h1.lt
    have H3 := Lib.hid h3
    have Hmv := Lib.hid hmv
    have hg := hGlt _ hm1.mem
    have hmk : Marks w1.heap.size (fun b => b ≠ w1.heap.size) W' [{ target := .collected w1.heap.size, args := #[] }] :=
      ⟨w1.heap.size, rfl, ⟨Nat.le_refl _, by simp⟩, hd, by simp, trivial⟩
    clear h1 h3 b0 b1 b2 hm1 hmv
    generalize hc : mCount s x = cnt at *
    have Hc := Lib.hid hc
    clear hc
    dsimp only
    gi_wp2
    have hkin : ∀ w', Fr (Kin nowhere w1.heap.size (fun b => b ≠ w1.heap.size)) W' w' → Fr (fun b => b = w1.heap.size) W' w' := fun w' hf => hf.mono (fun b _ e => Classical.byContradiction e.2)
    have hgb : ∀ gB b : Nat, (Value.slice (some ⟨gB, 0, none⟩) 1 cb).ownBlock = some b → w1.heap.size + 2 ≤ gB → ¬ b = w1.heap.size := fun gB b hb h => by
      have : gB = b := by simpa [Value.ownBlock] using hb
      omega
    refine leaves_many (v := .slice B cnt cb) hmk (fun w' hf => ?_) (fun w' hf => ?_)
    · simp [results, Try.results25, go_sem]
    · have hf := hkin w' hf
      refine ⟨Hmv.out.fr hf (fun b hb e => by have := hGlt b hb; omega), Fr.trans h2 hf (fun b hb e => by omega), ?_⟩
      rcases H3.out with ⟨rfl, rfl, rfl⟩ | ⟨rfl, ga, ca, A2, k, ds, gB, q1, rfl, q2, q3, q4, q5⟩
      · refine .inl ⟨?_, rfl⟩
        have := Hc.out
        unfold mCount at this
        cases hq : mNext (mKnow s x) x with
        | none => rfl
        | some y => rw [hq] at this; simp at this
      · exact .inr ⟨ga, ca, ds, A2, k, gB, cb, q1, rfl, by omega, own_base (own_fr q3 hf (fun b hb => hgb gB b hb q2)) (fun b _ hb => by omega), (q4.fr hf (fun b hb _ => by omega)).mono (fun b _ hb => ⟨by omega, hb.2⟩), q5.1, own_base (own_fr q5.2 hf (fun b hb e => by have := (q5.2.lt b hb).1; omega)) (fun b _ hb => by omega)⟩
  · exact fun _ _ _ h => h.elim
end Go.Proofs.Ytglcmlicfmmlpaa
