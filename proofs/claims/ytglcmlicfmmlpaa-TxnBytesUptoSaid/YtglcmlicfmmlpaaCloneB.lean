/-
  slices.Clone of bytes.
-/
import Derived.Test.YtglcmlicfmmlpaaCrc
namespace Go.Proofs.Ytglcmlicfmmlpaa
open Go.RowKit Go.Maps

set_option maxHeartbeats 400000 in
/-- slices.Clone of bytes -/
theorem clone_bytes_nil (c : Nat) (w : World) :
    Calls Try.prog 118 #[.slice none 0 c] w fun e w' => e = .returned (.slice none 0 0) ∧ w = w' := by
  have hnil := fun (W : World) => Lib.run_eql_slice_nil (P := Try.prog) W 26 5 none 0 c 0 0 Try.underlying26
  go_enter Try.func118, Try.ntmps118
  go_wp2
  go_ret
  exact ⟨rfl, rfl⟩

set_option maxHeartbeats 400000 in
theorem clone_bytes_some (ad : Addr) (c : Nat) (G : Nat → Prop) (bs : List UInt8) (w : World) (h : Bs w G (.slice (some ad) bs.length c) bs) (hb : bs.length ≤ 140737488355328) :
    Calls Try.prog 118 #[.slice (some ad) bs.length c] w fun e w' => ∃ v, e = .returned v ∧ w'.ownsRow w.heap.size 5 1 v bs.length (bs.map bcell) ∧ v ≠ .slice none 0 0 ∧ Fr nowhere w w' := by
  have hnil := fun (W : World) => Lib.run_eql_slice_nil (P := Try.prog) W 26 5 (some ad) bs.length c 0 0 Try.underlying26
  obtain ⟨i0, hi, hz0, hz1, hz2⟩ := info_parts info_u8
  go_enter Try.func118, Try.ntmps118
  go_wp2_with (at_builtin; refine wpList_append_sl _ rfl (.tmp 5) (.tmp 6) _ rfl w.heap.size 5 i0 _ 1 1 Try.underlying26 hi hz0 hz1 hz2 rfl (by omega) (.slice (some ⟨w.heap.size, 0, none⟩) 0 0) 0 [] rfl ?c1 G (.slice (some ad) bs.length c) bs.length (bs.map bcell) rfl ?c2 (bcells_one bs) ?c3 ?c4 ?c5 ?_; rotate_left 5; intro v' w1 hown hg hat hnl)
  case c1 => exact World.ownsRow_made _ _ _ (Nat.le_refl _) (by simp [maxLen]) (by simp)
  case c2 => exact Sl.same h (by simp) (fun b _ hlt => Below.heap_alloc _ _ _ hlt)
  case c3 => simp only [maxLen]; omega
  case c4 => omega
  case c5 => simp
  go_ret
  refine ⟨v', rfl, by simpa using hown, by simp [hnl], ?_⟩
  exact ((Fr.refl _ _).alloc _).grown hg (fun k e => by simp [Value.ownBlock] at e; omega)


/-- A copy of bytes: in new memory of its own; nil just where the source is. -/
def Copied (w : World) (v : Value) (bs : List UInt8) (e : Ending) (w' : World) : Prop :=
  ∃ A c, e = .returned (.slice A bs.length c) ∧ w'.ownsRow w.heap.size 5 1 (.slice A bs.length c) bs.length (bs.map bcell) ∧ (A = none ↔ v.ownBlock = none) ∧ Fr nowhere w w'

theorem clone_bytes (G : Nat → Prop) (v : Value) (bs : List UInt8) (w : World) (h : Bs w G v bs) (hb : bs.length ≤ 140737488355328) :
    Calls Try.prog 118 #[v] w (Copied w v bs) := by
  have h0 := h
  obtain ⟨A, c, rfl, hc, hm, hl, hA⟩ := h0
  rcases A with _ | ad
  · have hn : bs = [] := by
      rcases bs with _ | ⟨b, bs⟩
      · rfl
      · obtain ⟨_, _, h, _⟩ := hA (by simp)
        cases h
    subst hn
    exact (clone_bytes_nil c w).mono fun e w' ⟨he, hw⟩ => ⟨none, 0, he, by subst hw; simpa using World.ownsRow_nil _ _ _ _, by simp [Value.ownBlock], by subst hw; exact Fr.refl _ _⟩
  · refine (clone_bytes_some ad c G bs w h hb).mono fun e w' ⟨v', he, ho, hne, hbw⟩ => ?_
    obtain ⟨A, c', rfl, hA⟩ := ownsRow_slice ho
    exact ⟨A, c', he, ho, by rw [hA]; simp only [hne, Value.ownBlock]; simp, hbw⟩

end Go.Proofs.Ytglcmlicfmmlpaa
