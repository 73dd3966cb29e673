/- More small laws on frames and rows. -/
import Derived.Test.YtglcmlicfmmlpaaGen
namespace Go.Proofs.Ytglcmlicfmmlpaa
open Go.RowKit

theorem Fr.setRow {F : Nat → Prop} {w w1 : World} (h : Fr F w w1) {g : Nat} (hg : F g ∨ w.heap.size ≤ g) (cs : Array Value) : Fr F w (w1.setRow g cs) :=
  h.grown (grownBy_setRow w1 g cs) fun b e => by injection e with e; subst e; exact hg
theorem Fr.after {F : Nat → Prop} {w w1 w2 : World} (k : Fr nowhere w1 w2) (h : Fr F w w1) : Fr F w w2 := h.then k
/-- Turned since: only what was new. -/
theorem Fr.thenNew {F K : Nat → Prop} {w A C : World} (h : Fr F w A) (k : Fr K A C) (hK : ∀ b, K b → w.heap.size ≤ b) : Fr F w C := Fr.trans h k (fun b hb e => by have := hK b e; omega)
theorem Blk.outRow {w : World} {g : Nat} {t : TypeId} {cs cs' : Array Value} (h : Blk w g t cs) : (w.setRow g cs').heap[g]? = some (.cells cs' t (0, 0)) := Blk.setRow h cs'
theorem Blk.outSet {w : World} {g i : Nat} {t : TypeId} {cs : Array Value} {u : Value} (h : Blk w g t cs) : (w.setCell ⟨g, i, none⟩ u).heap[g]? = some (.cells (cs.setIfInBounds i u) t (0, 0)) := Blk.set_ h i u
theorem Blk.farRow {w : World} {g : Nat} {t : TypeId} {cs : Array Value} (h : Blk w g t cs) {b : Nat} (hb : g ≠ b) (cs' : Array Value) : Blk (w.setRow b cs') g t cs := h.grown (grownBy_setRow w b cs') (fun e => by injection e with e; exact hb e)
theorem own_fr {F : Nat → Prop} {w w' : World} {base : Nat} {e : TypeId} {size : Nat} {v : Value} {n : Nat} {xs : List Value} (h : w.ownsRow base e size v n xs) (hf : Fr F w w') (hn : ∀ g, v.ownBlock = some g → ¬ F g) : w'.ownsRow base e size v n xs :=
  own_same h fun g hg _ hlt => hf.block g hlt (hn g hg)
/-- Where a slice that append made lies. -/
theorem at_new {v : Value} {v' : Value} {k : Nat} (h : v'.ownBlock = v.ownBlock ∨ v'.ownBlock = some k) (hv : v.ownBlock = none) : ∀ g, v'.ownBlock = some g → g = k := fun g hg => by
  rcases h with h | h
  · rw [h, hv] at hg; cases hg
  · rw [h] at hg; injection hg with hg; exact hg.symm
theorem ei_u8 : EI Try.prog 5 (.int .u8 0) 1 1 := ei_of (by kernel_rfl) rfl (by omega)
/-- A block that lay there lies there behind new ones: in the spellings that the walk asks for. -/
theorem lts {g n : Nat} (h : g < n) : g < n + 1 ∧ g < n + 1 + 1 ∧ g < n + 1 + 1 + 1 ∧ g < n + 1 + 1 + 1 + 1 ∧ g < n + 1 + 1 + 1 + 1 + 1 := by omega
end Go.Proofs.Ytglcmlicfmmlpaa
