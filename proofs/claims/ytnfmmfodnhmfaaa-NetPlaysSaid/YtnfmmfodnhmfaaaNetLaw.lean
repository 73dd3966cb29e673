/- The laws' helper known: it returns true and turns nothing that was there. -/
import Derived.Lib.SlBytesConst
import Derived.Test.YtnfmmfodnhmfaaaNet4
namespace Go.Proofs.Ytnfmmfodnhmfaaa
open Go.RowKit Go.Maps

theorem NetAt.next {w w' : World} {p : Nat} {L : List Letter} {F : Nat → Prop} (h : NetAt w p L F) (hf : Fr nowhere w w') : NetAt w' p L F := h.fr hf (fun _ _ => id)


set_option maxHeartbeats 2000000 in
theorem known_any (w : World) : Calls Try.prog 14 #[] w fun e w' => e = .returned (.bool true) ∧ Fr nowhere w w' := by
  have kc := fun (w : World) (C : Array Value) (n c : Nat) => Lib.run_convert_bytes_const (P := Try.prog) w 28 5 C n c Try.underlying28 Try.underlying5
  go_enter Try.func14, Try.ntmps14
  go_wp2_with fail
  refine (new_any _).mono ?_
  rintro e w1 ⟨p, rfl, ⟨F, hn, hF⟩, hf⟩
  dsimp only
  go_wp2_with fail
  refine (send_any p [] F _ 0 1 _ [97] _ (hn.next ((Fr.refl _ _).alloc _)) (bs_new _ [97] _ _ (by simp [maxLen])) (by simp)).mono ?_
  rintro e w2 ⟨rfl, F2, hn2, hf2, hF2⟩
  have e2 : sendWhy [] 0 1 [97] = 0 := by decide
  rw [e2, if_pos rfl] at hn2
  rw [e2]
  have hf02 : Fr F w1 w2 := Fr.trans ((Fr.refl _ _).alloc _) hf2 (fun _ _ e => e)
  clear e2
  dsimp only
  go_wp2_with fail
  refine (send_any p _ F2 _ 1 0 _ [98] _ (hn2.next ((Fr.refl _ _).alloc _)) (bs_new _ [98] _ _ (by simp [maxLen])) (by simp)).mono ?_
  rintro e w3 ⟨rfl, F3, hn3, hf3, hF3⟩
  have e3 : sendWhy ([] ++ [⟨0, 1, [97]⟩]) 1 0 [98] = 0 := by decide
  rw [e3, if_pos rfl] at hn3
  rw [e3]
  have hf03 : Fr F2 w2 w3 := Fr.trans ((Fr.refl _ _).alloc _) hf3 (fun _ _ e => e)
  clear e3
  dsimp only
  go_wp2_with fail
  refine (double_any p _ F3 0 _ hn3 (by intro x hx; simp at hx; rcases hx with rfl | rfl <;> simp)).mono ?_
  rintro e w4 ⟨rfl, F4, hn4, hf4, hF4⟩
  have e4 : doubleL ([] ++ [⟨0, 1, [97]⟩] ++ [⟨1, 0, [98]⟩]) 0 = [⟨0, 1, [97]⟩, ⟨1, 0, [98]⟩, ⟨0, 1, [97]⟩] := rfl
  rw [e4] at hn4
  clear e4
  dsimp only
  go_wp2_with fail
  refine (take_some p _ F4 0 ⟨0, 1, [97]⟩ _ hn4 rfl).mono ?_
  rintro e w5 ⟨A5, c5, rfl, ho5, hn5, hf5⟩
  have hs5 := run_convert_bs (P := Try.prog) (Sl.of_own (G := fun _ => True) ho5 (fun _ _ => trivial)) 28 9 5 Try.underlying28 Try.underlying5 Try.underlying9
  dsimp only at hs5 hn5 ⊢
  go_wp2_with fail
  refine (look_some p _ F4 1 ⟨0, 1, [97]⟩ _ (hn5.next (by (repeat (first | exact Fr.refl _ _ | assumption | refine Fr.setCell ?_ (by first | (right; omega) | (right; simp; done) | (right; simp; omega) | (left; simp; done) | (left; simp; omega) | (left; dsimp only; omega)) _ | refine Fr.alloc ?_ _ | refine Fr.drew ?_ | refine Fr.setRow ?_ (by first | (right; omega) | (right; simp; done) | (right; simp; omega) | (left; simp; done) | (left; simp; omega) | (left; dsimp only; omega)) _)))) rfl).mono ?_
  rintro e w6 ⟨A6, c6, rfl, ho6, hf6⟩
  have b6 : Blk w6 w5.heap.size _ _ := (Blk.new w5 _ _).same (hf6.block _ (by simp) id)
  obtain ⟨r0, r1, r2, rf0, rf1, rf2⟩ := b6.facts3
  have hz6 := b6.lt
  have hf56 : Fr nowhere w5 w6 := Fr.trans ((Fr.refl _ _).alloc _) hf6 (fun _ _ e => e)
  have hn6 := hn5.next hf56
  have hb5 : Bs (w6.alloc (.cells #[.int .i64 0, .int .i64 1, .slice A6 1 c6] 35)) (fun _ => True) (.slice A5 1 c5) [97] :=
    (Sl.of_own (G := fun b => b < w5.heap.size) ho5 (fun g hg => (ho5.lt g hg).2)).same (by simp; omega) (fun b hb hlt => by rw [hp_new _ _ _ (by omega), hf56.block b hlt id]) |>.mono (fun _ _ _ => trivial)
  have hb6 : Bs (w6.alloc (.cells #[.int .i64 0, .int .i64 1, .slice A6 1 c6] 35)) (fun _ => True) (.slice A6 1 c6) [97] :=
    (Sl.of_own (G := fun b => b < w6.heap.size) ho6 (fun g hg => (ho6.lt g hg).2)).same (by simp) (fun b hb hlt => hp_new _ _ _ hlt) |>.mono (fun _ _ _ => trivial)
  have hs5 := run_convert_bs (P := Try.prog) hb5 28 9 5 Try.underlying28 Try.underlying5 Try.underlying9
  have hs6 := run_convert_bs (P := Try.prog) hb6 28 9 5 Try.underlying28 Try.underlying5 Try.underlying9
  have hn7 : NetAt (w6.alloc (.cells #[.int .i64 0, .int .i64 1, .slice A6 1 c6] 35)) p _ F4 := hn6.next ((Fr.refl _ _).alloc _)
  have hto : toN ([⟨0, 1, [97]⟩, ⟨1, 0, [98]⟩, ⟨0, 1, [97]⟩].eraseIdx 0) 1 = 1 := by decide
  dsimp only
  go_wp2_with (first | (go_at_call 10; refine (len_any p _ F4 _ hn7).mono ?_; rintro e w' ⟨rfl, rfl⟩) | (go_at_call 9; refine (to_any p _ F4 1 _ hn7).mono ?_; rintro e w8 ⟨rfl, hf8⟩; rw [hto]))
  go_ret
  refine ⟨rfl, ?_⟩
  have z1 := hf.size
  have k2 : ∀ b, F2 b → w.heap.size ≤ b := fun b h => by rcases hF2 b h with h | h; exact hF b h; simp at h; omega
  have g2 : Fr nowhere w w2 := Fr.trans hf hf02 (fun b hb e => by have := hF b e; omega)
  have z2 := g2.size
  have k3 : ∀ b, F3 b → w.heap.size ≤ b := fun b h => by rcases hF3 b h with h | h; exact k2 b h; simp at h; omega
  have g3 : Fr nowhere w w3 := Fr.trans g2 hf03 (fun b hb e => by have := k2 b e; omega)
  have z3 := g3.size
  have k4 : ∀ b, F4 b → w.heap.size ≤ b := fun b h => by rcases hF4 b h with h | h; exact k3 b h; omega
  have g4 : Fr nowhere w w4 := Fr.trans g3 hf4 (fun b hb e => by have := k3 b e; omega)
  have g5 : Fr nowhere w w5 := Fr.trans g4 hf5 (fun b hb e => by have := k4 b e; omega)
  have g6 : Fr nowhere w w6 := Fr.trans g5 hf56 (fun _ _ e => e)
  exact Fr.trans (g6.alloc _) hf8 (fun _ _ e => e)
theorem as_any (f t : Int) (A : Option Addr) (n c : Nat) (w : World) :
    Calls Try.prog 13 #[.agg #[.int .i64 f, .int .i64 t, .slice A n c]] w fun e w' => e = .returned (.agg #[.int .i64 f, .int .i64 t, .slice A n c]) ∧ Fr nowhere w w' := by
  go_enter Try.func13, Try.ntmps13
  go_wp2
  exact bodyPost_ret (v := .agg #[.int .i64 f, .int .i64 t, .slice A n c]) (by simp [results, Try.results13, go_sem]) rfl ⟨rfl, by (repeat (first | exact Fr.refl _ _ | assumption | refine Fr.setCell ?_ (by first | (right; omega) | (right; simp; done) | (right; simp; omega) | (left; simp; done) | (left; simp; omega) | (left; dsimp only; omega)) _ | refine Fr.alloc ?_ _ | refine Fr.drew ?_ | refine Fr.setRow ?_ (by first | (right; omega) | (right; simp; done) | (right; simp; omega) | (left; simp; done) | (left; simp; omega) | (left; dsimp only; omega)) _))⟩

theorem same_yes (f t : Int) (G G' : Nat → Prop) (v u : Value) (bs : List UInt8) (w : World) (h : Bs w G v bs) (h' : Bs w G' u bs) :
    Calls Try.prog 12 #[.agg #[.int .i64 f, .int .i64 t, v], .agg #[.int .i64 f, .int .i64 t, u]] w fun e w' => e = .returned (.bool true) ∧ Fr nowhere w w' := by
  have hW : Fr nowhere w ((w.alloc (.cells #[.int .i64 f, .int .i64 t, v] 32)).alloc (.cells #[.int .i64 f, .int .i64 t, u] 32)) := ((Fr.refl _ _).alloc _).alloc _
  have h1 := run_convert_bs (P := Try.prog) (h.fr hW (fun _ _ _ => id)) 28 9 5 Try.underlying28 Try.underlying5 Try.underlying9
  have h2 := run_convert_bs (P := Try.prog) (h'.fr hW (fun _ _ _ => id)) 28 9 5 Try.underlying28 Try.underlying5 Try.underlying9
  obtain ⟨A, c, rfl⟩ := sl_len h
  obtain ⟨A', c', rfl⟩ := sl_len h'
  clear h h' hW
  go_enter Try.func12, Try.ntmps12
  go_wp2
  go_ret
  exact ⟨rfl, by (repeat (first | exact Fr.refl _ _ | assumption | refine Fr.setCell ?_ (by first | (right; omega) | (right; simp; done) | (right; simp; omega) | (left; simp; done) | (left; simp; omega) | (left; dsimp only; omega)) _ | refine Fr.alloc ?_ _ | refine Fr.drew ?_ | refine Fr.setRow ?_ (by first | (right; omega) | (right; simp; done) | (right; simp; omega) | (left; simp; done) | (left; simp; omega) | (left; dsimp only; omega)) _))⟩
end Go.Proofs.Ytnfmmfodnhmfaaa
