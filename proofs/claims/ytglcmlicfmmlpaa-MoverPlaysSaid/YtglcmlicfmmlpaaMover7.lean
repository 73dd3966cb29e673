/- The mover that is not there. -/
import Derived.Test.YtglcmlicfmmlpaaMover6
namespace Go.Proofs.Ytglcmlicfmmlpaa
open Go.RowKit

section
theorem hasNil_any (w : World) : Calls Try.prog 34 #[.pointer none] w fun e w' => e = .returned (.int .i64 0) ∧ w = w' := by
  go_enter Try.func34, Try.ntmps34
  go_wp2
  go_ret
  exact ⟨rfl, rfl⟩
theorem atNil_any (w : World) : Calls Try.prog 36 #[.pointer none] w fun e w' => e = .returned (.int .i64 0) ∧ w = w' := by
  go_enter Try.func36, Try.ntmps36
  go_wp2
  go_ret
  exact ⟨rfl, rfl⟩
set_option maxRecDepth 100000 in
set_option maxHeartbeats 1000000 in
theorem toldNil_any (x : Mv) (ga : Int) (c : Cmd) (vc : Value) (why : Int) (wait : Bool) (rw_ ra : Int) (vr vd : Value) (hvc : ∃ A n k, vc = .slice A n k) (hvr : ∃ A n k, vr = .slice A n k) (hvd : ∃ A n k, vd = .slice A n k) (w : World) :
    Calls Try.prog 31 #[.pointer none, movV x, askV ga c vc, resV why wait rw_ ra vr vd] w fun e w' => e = .returned (.tuple #[.agg #[.int .i64 0, .int .i64 0, .int .i64 0, .int .i64 0, .int .i64 0], .bool false]) ∧ Fr nowhere w w' := by
  obtain ⟨A1, n1, k1, rfl⟩ := hvc
  obtain ⟨A2, n2, k2, rfl⟩ := hvr
  obtain ⟨A3, n3, k3, rfl⟩ := hvd
  go_enter Try.func31, Try.ntmps31
  go_wp2_with (first | ((first | (with_reducible apply wpList_ran) | (with_reducible apply wpListIn_ran (fun _ => trivial)) | (with_reducible apply wp_ran) | (with_reducible apply wpIn_ran (fun _ => trivial))); (case r => ((with_reducible apply ran_bd rfl (bd_ccmd0 _)); (first | (case he => exact rfl) | exact rfl))); (try (case hw => rfl))) | ((first | (with_reducible apply wpList_ran) | (with_reducible apply wpListIn_ran (fun _ => trivial)) | (with_reducible apply wp_ran) | (with_reducible apply wpIn_ran (fun _ => trivial))); (case r => ((with_reducible apply ran_st 79 rfl rfl 5 (by kernel_rfl)); (case hx => exact rfl); (case hy => exact rfl); (case hg => (first | ((apply Blk.out); (repeat (first | (with_reducible assumption) | ((with_reducible apply Blk.set_); (case' h => skip)) | ((with_reducible apply Blk.setRow); (case' h => skip)) | ((with_reducible apply Blk.far); (case' hp => (first | (simp; done) | (simp; omega) | omega)); (case' h => skip)) | ((with_reducible apply Blk.farRow); (case' hb => (first | (simp; done) | (simp; omega) | omega)); (case' h => skip)) | (with_reducible apply Blk.drew) | (with_reducible apply Blk.drewN) | ((with_reducible apply Blk.newAt); (first | rfl | (simp; done))) | ((apply Blk.newAt); (first | rfl | (simp; done))) | (with_reducible apply Blk.alloc) | assumption)); done) | (refine hpL0 ?hq; (case hq => (simp; done))) | (refine hpL1 ?hq; (case hq => (simp; done))) | (refine hpL2 ?hq; (case hq => (simp; done))) | (refine hpL3 ?hq; (case hq => (simp; done))) | (refine hpL4 ?hq; (case hq => (simp; done))) | (refine hpL5 ?hq; (case hq => (simp; done))) | (refine hpL6 ?hq; (case hq => (simp; done))))); (case hW => (first | (refine stL0 ?hq; (case hq => (simp; done))) | (refine stL1 ?hq; (case hq => (simp; done))) | (refine stL2 ?hq; (case hq => (simp; done))) | (refine stL3 ?hq; (case hq => (simp; done))) | (refine stL4 ?hq; (case hq => (simp; done))) | (refine stL5 ?hq; (case hq => (simp; done))) | (refine stL6 ?hq; (case hq => (simp; done))) | exact rfl)); (case hc => exact rfl); (case hold => exact rfl); (case h1 => kernel_rfl))); (try (case hw => rfl))))
  refine bodyPost_ret (v := .tuple #[.agg #[.int .i64 0, .int .i64 0, .int .i64 0, .int .i64 0, .int .i64 0], .bool false]) (results_cell_tmp rfl _ _ _ 79 _ (0, 0) _ _ rfl rfl ?_ Try.underlying79 rfl (by kernel_rfl)) rfl ?_
  · (first | ((apply Blk.out); (repeat (first | (with_reducible assumption) | ((with_reducible apply Blk.set_); (case' h => skip)) | ((with_reducible apply Blk.setRow); (case' h => skip)) | ((with_reducible apply Blk.far); (case' hp => (first | (simp; done) | (simp; omega) | omega)); (case' h => skip)) | ((with_reducible apply Blk.farRow); (case' hb => (first | (simp; done) | (simp; omega) | omega)); (case' h => skip)) | (with_reducible apply Blk.drew) | (with_reducible apply Blk.drewN) | ((with_reducible apply Blk.newAt); (first | rfl | (simp; done))) | ((apply Blk.newAt); (first | rfl | (simp; done))) | (with_reducible apply Blk.alloc) | assumption)); done) | (refine hpL0 ?hq; (case hq => (simp; done))) | (refine hpL1 ?hq; (case hq => (simp; done))) | (refine hpL2 ?hq; (case hq => (simp; done))) | (refine hpL3 ?hq; (case hq => (simp; done))) | (refine hpL4 ?hq; (case hq => (simp; done))) | (refine hpL5 ?hq; (case hq => (simp; done))) | (refine hpL6 ?hq; (case hq => (simp; done))))
  · exact ⟨rfl, by (repeat (first | exact Fr.refl _ _ | assumption | refine Fr.setCell ?_ (by first | (right; omega) | (right; simp; done) | (right; simp; omega) | (left; simp; done) | (left; simp; omega) | (left; dsimp only; omega)) _ | refine Fr.alloc ?_ _ | refine Fr.drew ?_ | refine Fr.setRow ?_ (by first | (right; omega) | (right; simp; done) | (right; simp; omega) | (left; simp; done) | (left; simp; omega) | (left; dsimp only; omega)) _))⟩
theorem movAsksNil_any (x : Mv) (w : World) :
    Calls Try.prog 67 #[.pointer none, movV x] w fun e w' => e = .returned (.func (.func 110) #[] #[.pointer (some ⟨w.heap.size, 0, none⟩), .pointer (some ⟨w.heap.size + 1, 0, none⟩)]) ∧
    w' = (w.alloc (.cells #[.pointer none] 64)).alloc (.cells (movV x).cells 74) := by
  go_enter Try.func67, Try.ntmps67
  go_wp2
  go_ret
  exact ⟨rfl, rfl⟩
end
attribute [local go_sem] Oper.semAt_some
set_option maxHeartbeats 1000000 in
theorem mAsksNil1_iter (m bM bX : Nat) (Fb : Nat → Prop) (w : World) (h1 : Blk w bM 64 #[.pointer none]) :
    Iterates Fence.wide m Try.prog 110 #[.pointer (some ⟨bM, 0, none⟩), .pointer (some ⟨bX, 0, none⟩)] Fb (fun _ _ _ => False) (fun i => i = 0) w := by
  intro l J Jx K0 W hlw hlW hfr hJl hJ hJx hY h0 hK0
  have HJ := Lib.hid hJ
  have hl1 := h1.lt
  have hz := hfr.size
  have hL1 : bM < W.heap.size := by omega
  have s1 := h1.fr hfr id
  obtain ⟨c1, _⟩ := s1.facts1
  clear s1
  refine callsIn_of_wp Try.func110 rfl trivial ?_
  simp only [Try.ntmps110, List.size_toArray, List.length_cons, List.length_nil, Nat.reduceAdd, Nat.reduceSub, Array.replicate_succ, Array.replicate_zero, List.push_toArray, List.append_toArray, List.nil_append, List.cons_append]
  gi_wp2
  refine wpIn_scope_straight ?_
  gi_wp2
  refine wpIn_label ?_
  gi_wp2
  refine wpIn_loop (fun a' wr => a' = { tmps := #[.func (.yield l) #[] #[], .pointer (some ⟨bM, 0, none⟩), .pointer (some ⟨bX, 0, none⟩), undef, undef, undef, undef, undef, undef, undef, undef, undef, undef, undef, undef, undef, undef, undef, undef, undef, undef], defers := [] } ∧ wr = W) (fun _ _ => 0) ⟨rfl, rfl⟩ ?_
  rintro a' wr ⟨rfl, rfl⟩
  gi_wp2
  first | (simp only [Exit.noGoto]; go_end0) | go_end0
  exact ⟨⟨_, rfl⟩, .inl ⟨0, K0, rfl, h0⟩⟩
set_option maxRecDepth 100000 in
set_option maxHeartbeats 4000000 in
theorem asks16Nil_any (x : Mv) (w : World) :
    Calls Try.prog 25 #[.pointer none, movV x] w fun e w' => e = .returned (.slice none 0 0) ∧ Fr nowhere w w' := by
  have hnf := seq16_not_nil
  refine callsIn_wide (n := 5).1 ?_
  refine callsIn_of_wp_marks Try.func25 rfl trivial ?_
  simp only [Try.ntmps25, List.size_toArray, List.length_cons, List.length_nil, Nat.reduceAdd, Nat.reduceSub, Array.replicate_succ, Array.replicate_zero, List.push_toArray, List.append_toArray, List.nil_append, List.cons_append]
  gi_wp2_with (first | ((first | (with_reducible apply wpList_ran) | (with_reducible apply wpListIn_ran (fun _ => trivial)) | (with_reducible apply wp_ran) | (with_reducible apply wpIn_ran (fun _ => trivial))); (case r => ((with_reducible apply ran_ld 74 rfl 6 (by kernel_rfl) _ Try.underlying74 rfl); (case hx => exact rfl); (case hg => (first | ((apply Blk.out); (repeat (first | (with_reducible assumption) | ((with_reducible apply Blk.set_); (case' h => skip)) | ((with_reducible apply Blk.setRow); (case' h => skip)) | ((with_reducible apply Blk.far); (case' hp => (first | (simp; done) | (simp; omega) | omega)); (case' h => skip)) | ((with_reducible apply Blk.farRow); (case' hb => (first | (simp; done) | (simp; omega) | omega)); (case' h => skip)) | (with_reducible apply Blk.drew) | (with_reducible apply Blk.drewN) | ((with_reducible apply Blk.newAt); (first | rfl | (simp; done))) | ((apply Blk.newAt); (first | rfl | (simp; done))) | (with_reducible apply Blk.alloc) | assumption)); done) | (refine hpL0 ?hq; (case hq => (simp; done))) | (refine hpL1 ?hq; (case hq => (simp; done))) | (refine hpL2 ?hq; (case hq => (simp; done))) | (refine hpL3 ?hq; (case hq => (simp; done))) | (refine hpL4 ?hq; (case hq => (simp; done))) | (refine hpL5 ?hq; (case hq => (simp; done))) | (refine hpL6 ?hq; (case hq => (simp; done))))); (case hc => exact rfl))); (try (case hw => rfl))))
  refine ⟨trivial, callsIn_wide.2 ((movAsksNil_any x _).mono ?_)⟩
  rintro e w1 ⟨rfl, hw1⟩
  have b0 : Blk w1 (w.heap.size + 1) 41 #[.slice none 0 0] := by rw [hw1]; exact ((Blk.newAt (by simp)).alloc _).alloc _
  have b1 : Blk w1 (w.heap.size + 2) 64 #[.pointer none] := by rw [hw1]; exact (Blk.newAt (by simp)).alloc _
  have hf1 : Fr nowhere w w1 := by rw [hw1]; (repeat (first | exact Fr.refl _ _ | assumption | refine Fr.setCell ?_ (by first | (right; omega) | (right; simp; done) | (right; simp; omega) | (left; simp; done) | (left; simp; omega) | (left; dsimp only; omega)) _ | refine Fr.alloc ?_ _ | refine Fr.drew ?_ | refine Fr.setRow ?_ (by first | (right; omega) | (right; simp; done) | (right; simp; omega) | (left; simp; done) | (left; simp; omega) | (left; dsimp only; omega)) _))
  have hz1 : w1.heap.size = w.heap.size + 4 := by rw [hw1]; simp
  have H0 := Lib.hid (show _ ∧ _ from ⟨b0, b1⟩)
  clear hw1 b0 b1
  dsimp only
  rw [show ((w.alloc _).alloc _).heap.size + 1 = w.heap.size + 3 by simp, show ((w.alloc _).alloc _).heap.size = w.heap.size + 2 by simp]
  gi_wp2
  clear hnf
  obtain ⟨b0, b1⟩ := H0.out
  refine wpIn_range (Fb := fun b => b = w.heap.size + 1) (K0 := fun b => b = w.heap.size + 1) (X := fun _ _ _ => False) (S := fun i => i = 0) rfl rfl (fun _ => trivial) (gf := 110) rfl (fun _ _ => by kernel_rfl)
    (mAsksNil1_iter _ (w.heap.size + 2) (w.heap.size + 3) _ w1 b1) (fun _ _ _ h => h.elim) (fun b hb => by subst hb; exact ⟨rfl, by omega⟩)
    (fun _ K W' => (K = fun b => b = w.heap.size + 1) ∧ Blk W' (w.heap.size + 1) 41 #[.slice none 0 0] ∧ Fr nowhere w W') (fun _ _ _ => False) ?_ ?_ ?_ ?_ ?_ ?_ ?_
  · rintro i K A ⟨rfl, h1, h2⟩ b rfl
    exact h1.lt
  · rintro i K A C ⟨rfl, h1, h2⟩ hf
    exact ⟨rfl, h1.kin hf (.inr rfl), h2.thenKin hf (by omega)⟩
  · exact fun _ _ _ _ h => h.elim
  · exact ⟨rfl, b0, hf1⟩
  · intro i K vs W' _ _ _ _ _ h
    exact h.elim
  · rintro i K W' rfl ⟨rfl, h1, h2⟩ hd
    obtain ⟨c0, f0⟩ := h1.facts1
    have hzg := h1.lt
    have hmk : Marks w1.heap.size (fun b => b ≠ w1.heap.size) W' [{ target := .collected w1.heap.size, args := #[] }] :=
      ⟨w1.heap.size, rfl, ⟨Nat.le_refl _, by simp⟩, hd, by simp, trivial⟩
    clear h1 b0 b1
    dsimp only
    gi_wp2
    refine leaves_many (v := .slice none 0 0) hmk (fun w' hf => ?_) (fun w' hf => ?_)
    · simp [results, Try.results25, go_sem]
    · exact ⟨rfl, h2.thenKin hf (by omega)⟩
  · exact fun _ _ _ h => h.elim
end Go.Proofs.Ytglcmlicfmmlpaa
